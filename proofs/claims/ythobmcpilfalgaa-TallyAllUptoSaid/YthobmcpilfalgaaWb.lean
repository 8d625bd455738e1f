/-
  Walk: two tallies together.
-/
import Derived.Test.YthobmcpilfalgaaWa
import Derived.Deep.CutRange
import Derived.Deep.CutBlock
namespace Go.Proofs.Ythobmcpilfalgaa
open Go.RowKit Go.Proofs.Ythobmcpilfalgaa.Plan Go.Proofs.Ythobmcpilfalgaa.Eager
set_option maxHeartbeats 2000000
set_option maxRecDepth 20000
set_option linter.unusedVariables false
set_option linter.unusedSimpArgs false

theorem row58 : RowTy Try.prog 58 6 := ⟨⟨_, rfl, rfl⟩, by kernel_rfl⟩
def nth (t : Tal) (i : Nat) : Int := [t.h, t.w, t.r, t.s, t.o, t.b].getD i 0
theorem cells_len (t : Tal) : t.cells.length = 6 := rfl
theorem cells_get (t : Tal) (k : Nat) (hk : k < 6) : t.cells[k]'(by rw [cells_len]; exact hk) = .int .i64 (nth t k) := by
  rcases k with _ | _ | _ | _ | _ | _ | k <;> first | rfl | omega
theorem cells_turn (t : Tal) (V : Nat → Value) : t.cells = turnTo V (fun i => .int .i64 (nth t i)) 0 6 := by rw [turnTo_zero]; rfl
theorem cells_add (x y : Tal) (Z : Nat → Value) : turnTo (fun i => .int .i64 (wrap64 (nth x i + nth y i))) Z 6 6 = (addT x y).cells := by rw [turnTo_full]; rfl

theorem add19 (x y : Tal) (w : World) : Calls Try.prog 19 #[.agg x.cells.toArray, .agg y.cells.toArray] w fun e w' => e = .returned (.agg (addT x y).cells.toArray) ∧ Below w.heap.size w w' := by
  have hb0 : Below w.heap.size w (((w.alloc (.cells x.cells.toArray 33)).alloc (.cells y.cells.toArray 33)).alloc (.cells t0.cells.toArray 33)) := by (with_reducible try refine Lib.hid ?_); (repeat (with_reducible first | assumption | exact Below.refl _ _ | apply Below.drew | apply Below.drewN' | apply Below.setCell | apply Below.alloc)) <;> (try simp [length_fillTo, length_turnTo]) <;> (try omega)
  have hA : Blk (((w.alloc (.cells x.cells.toArray 33)).alloc (.cells y.cells.toArray 33)).alloc (.cells t0.cells.toArray 33)) w.heap.size x.cells := Blk.alloc (Blk.alloc (Blk.new' rfl) _) _
  have hC : Blk (((w.alloc (.cells x.cells.toArray 33)).alloc (.cells y.cells.toArray 33)).alloc (.cells t0.cells.toArray 33)) (w.heap.size + 1) y.cells := Blk.alloc (Blk.new' (by simp)) _
  have hR : Blk (((w.alloc (.cells x.cells.toArray 33)).alloc (.cells y.cells.toArray 33)).alloc (.cells t0.cells.toArray 33)) (w.heap.size + 2) t0.cells := Blk.new' (by simp)
  have HA := Lib.hid hA; have HC := Lib.hid hC; have HR := Lib.hid hR; have HB := Lib.hid hb0
  clear hA hC hR hb0
  go_enter Try.func19, Try.ntmps19
  go_upto_region 1 with fail
  go_cut [5, 6] from 8 (fun v5 v6 wx => ∃ bX bY : Nat, v5 = .pointer (some ⟨bX, 0, none⟩) ∧ v6 = .pointer (some ⟨bY, 0, none⟩) ∧ bY ≠ bX ∧ w.heap.size + 3 ≤ bX ∧ w.heap.size + 3 ≤ bY ∧ Hid (Blk wx bX x.cells) ∧ Hid (Blk wx bY y.cells) ∧ Hid (Blk wx (w.heap.size + 2) t0.cells) ∧ Hid (Below w.heap.size w wx))
  case first =>
    refine wp_region_plan (some (w.heap.size + 3)) [7] [] (.take 0 (.take 2 (.three 1 (.three 3 (.two 4 (.one 5 (.one 6 (.tail [7]))) 5 (.one 4 (.one 6 (.tail [7])))) 4 (.two 3 (.one 5 (.one 6 (.tail [7]))) 5 (.one 3 (.one 6 (.tail [7])))) 5 (.two 3 (.one 4 (.one 6 (.tail [7]))) 4 (.one 3 (.one 6 (.tail [7]))))) 4 (.two 1 (.two 3 (.one 5 (.one 6 (.tail [7]))) 5 (.one 3 (.one 6 (.tail [7])))) 5 (.one 1 (.one 3 (.one 6 (.tail [7]))))) 5 (.two 1 (.two 3 (.one 4 (.one 6 (.tail [7]))) 4 (.one 3 (.one 6 (.tail [7])))) 4 (.one 1 (.one 3 (.one 6 (.tail [7])))))))) (by kernel_rfl) (by kernel_rfl) (fun _ _ dd _ _ h => by cases dd <;> exact h) ?_
    intro W0 hW0
    have hA : Blk W0 w.heap.size x.cells := by rw [hW0]; exact HA.out.drew
    have hC : Blk W0 (w.heap.size + 1) y.cells := by rw [hW0]; exact HC.out.drew
    have hR : Blk W0 (w.heap.size + 2) t0.cells := by rw [hW0]; exact HR.out.drew
    have hbW : Below w.heap.size w W0 := by rw [hW0]; exact HB.out.drew
    have hnW : w.heap.size + 3 ≤ W0.heap.size := by have := hR.lt; omega
    clear hW0
    generalize W0 = Wz at *
    (refine pl_take (d := 8) (v := ?_) rfl rfl rfl ?_ ?_; rotate_left; (focus ((intro w' hb0 hw'; have hc : Blk w' w.heap.size x.cells := ⟨Nat.lt_of_lt_of_le hA.lt hw'.size, fun i hi => (hw'.cell (p := ⟨w.heap.size, i, none⟩) (by simp)).trans (hA.cell i hi), fun i => (hw'.frozen (p := ⟨w.heap.size, i, none⟩) (by simp)).trans (hA.froz i)⟩; have c0 := hc.at' 0 (by simp [Tal.cells]); have c1 := hc.at' 1 (by simp [Tal.cells]); have c2 := hc.at' 2 (by simp [Tal.cells]); have c3 := hc.at' 3 (by simp [Tal.cells]); have c4 := hc.at' 4 (by simp [Tal.cells]); have c5 := hc.at' 5 (by simp [Tal.cells]); simp only [Tal.cells, List.getElem_cons_succ, List.getElem_cons_zero] at c0 c1 c2 c3 c4 c5; go_simp) <;> with_reducible rfl)); simp only [Act.put, List.setIfInBounds_toArray, List.set_cons_zero, List.set_cons_succ])
    (refine pl_take (d := 10) (v := ?_) rfl rfl rfl ?_ ?_; rotate_left; (focus ((intro w' hb0 hw'; have hc : Blk w' (w.heap.size + 1) y.cells := ⟨Nat.lt_of_lt_of_le hC.lt hw'.size, fun i hi => (hw'.cell (p := ⟨w.heap.size + 1, i, none⟩) (by simp)).trans (hC.cell i hi), fun i => (hw'.frozen (p := ⟨w.heap.size + 1, i, none⟩) (by simp)).trans (hC.froz i)⟩; have c0 := hc.at' 0 (by simp [Tal.cells]); have c1 := hc.at' 1 (by simp [Tal.cells]); have c2 := hc.at' 2 (by simp [Tal.cells]); have c3 := hc.at' 3 (by simp [Tal.cells]); have c4 := hc.at' 4 (by simp [Tal.cells]); have c5 := hc.at' 5 (by simp [Tal.cells]); simp only [Tal.cells, List.getElem_cons_succ, List.getElem_cons_zero] at c0 c1 c2 c3 c4 c5; go_simp) <;> with_reducible rfl)); simp only [Act.put, List.setIfInBounds_toArray, List.set_cons_zero, List.set_cons_succ])
    refine pl_three rfl rfl rfl rfl rfl rfl (fun K hK => ?_) (fun K hK => ?_) (fun K hK => ?_)
    · go_simp
      refine (numbers30 x Wz).mono ?_
      rintro r Wv ⟨rfl, hbk⟩
      refine hK _ _ (hbk.mono hnW : Below (w.heap.size + 3) Wz Wv) ?_
      clear hK
      replace hnW : w.heap.size + 3 ≤ Wv.heap.size := Nat.le_trans hnW hbk.size
      (try replace hA := hA.later hbk); (try replace hC := hC.later hbk); replace hR := hR.later hbk
      (try replace hX := hX.later hbk); (try replace hY := hY.later hbk)
      replace hbW := below_step hbW hbk
      clear hbk
      generalize Wv = Wz at *
      refine pl_three rfl rfl rfl rfl rfl rfl (fun K hK => ?_) (fun K hK => ?_) (fun K hK => ?_)
      · go_simp
        refine (numbers30 y Wz).mono ?_
        rintro r Wv ⟨rfl, hbk⟩
        refine hK _ _ (hbk.mono hnW : Below (w.heap.size + 3) Wz Wv) ?_
        clear hK
        replace hnW : w.heap.size + 3 ≤ Wv.heap.size := Nat.le_trans hnW hbk.size
        (try replace hA := hA.later hbk); (try replace hC := hC.later hbk); replace hR := hR.later hbk
        (try replace hX := hX.later hbk); (try replace hY := hY.later hbk)
        replace hbW := below_step hbW hbk
        clear hbk
        generalize Wv = Wz at *
        refine pl_two rfl rfl rfl rfl (fun K hK => ?_) (fun K hK => ?_)
        · go_simp
          have hbk : Below Wz.heap.size Wz (Wz.alloc (.cells [Value.int .i64 0, .int .i64 0, .int .i64 0, .int .i64 0, .int .i64 0, .int .i64 0].toArray 58)) := (Below.refl _ _).alloc (Nat.le_refl _) _
          refine hK _ _ (hbk.mono hnW : Below (w.heap.size + 3) Wz _) ?_
          clear hK
          obtain ⟨bX, hbX⟩ : ∃ b, b = Wz.heap.size := ⟨_, rfl⟩
          have hX : Blk (Wz.alloc (.cells [Value.int .i64 0, .int .i64 0, .int .i64 0, .int .i64 0, .int .i64 0, .int .i64 0].toArray 58)) bX [Value.int .i64 0, .int .i64 0, .int .i64 0, .int .i64 0, .int .i64 0, .int .i64 0] := Blk.new' hbX
          have hnX : w.heap.size + 3 ≤ bX := by omega
          (try have hxy : bX ≠ bY := by have := hY.lt; omega)
          (try replace hA := hA.later hbk); (try replace hC := hC.later hbk); replace hR := hR.later hbk
          skip; (try replace hY := hY.later hbk)
          replace hbW := below_step hbW hbk
          replace hnW : w.heap.size + 3 ≤ (Wz.alloc (.cells [Value.int .i64 0, .int .i64 0, .int .i64 0, .int .i64 0, .int .i64 0, .int .i64 0].toArray 58)).heap.size := Nat.le_trans hnW hbk.size
          rw [← hbX]
          clear hbk hbX
          generalize Wz.alloc (.cells [Value.int .i64 0, .int .i64 0, .int .i64 0, .int .i64 0, .int .i64 0, .int .i64 0].toArray 58) = Wz at *
          refine pl_one rfl rfl (fun K hK => ?_)
          go_simp
          have hbk : Below Wz.heap.size Wz (Wz.alloc (.cells [Value.int .i64 0, .int .i64 0, .int .i64 0, .int .i64 0, .int .i64 0, .int .i64 0].toArray 58)) := (Below.refl _ _).alloc (Nat.le_refl _) _
          refine hK _ _ (hbk.mono hnW : Below (w.heap.size + 3) Wz _) ?_
          clear hK
          obtain ⟨bY, hbY⟩ : ∃ b, b = Wz.heap.size := ⟨_, rfl⟩
          have hY : Blk (Wz.alloc (.cells [Value.int .i64 0, .int .i64 0, .int .i64 0, .int .i64 0, .int .i64 0, .int .i64 0].toArray 58)) bY [Value.int .i64 0, .int .i64 0, .int .i64 0, .int .i64 0, .int .i64 0, .int .i64 0] := Blk.new' hbY
          have hnY : w.heap.size + 3 ≤ bY := by omega
          (try have hxy : bY ≠ bX := by have := hX.lt; omega)
          (try replace hA := hA.later hbk); (try replace hC := hC.later hbk); replace hR := hR.later hbk
          (try replace hX := hX.later hbk); skip
          replace hbW := below_step hbW hbk
          replace hnW : w.heap.size + 3 ≤ (Wz.alloc (.cells [Value.int .i64 0, .int .i64 0, .int .i64 0, .int .i64 0, .int .i64 0, .int .i64 0].toArray 58)).heap.size := Nat.le_trans hnW hbk.size
          rw [← hbY]
          clear hbk hbY
          generalize Wz.alloc (.cells [Value.int .i64 0, .int .i64 0, .int .i64 0, .int .i64 0, .int .i64 0, .int .i64 0].toArray 58) = Wz at *
          refine pl_one rfl rfl (fun K hK => ?_)
          refine wp_store_blk rfl hX (by rfl) (vs := x.cells) (by rfl) row58 rfl (by simp [Tal.cells, Value.oneCell']) ?_
          intro Wv hX2 hg
          have hbk : Below (w.heap.size + 3) Wz Wv := Below.grownB (Below.refl _ _) hg hnX hnW
          refine hK _ _ hbk ?_
          clear hK
          replace hY := hY.grown hg (by intro e; cases e; first | exact hxy rfl | exact hxy.symm rfl)
          replace hR := hR.grown hg (by intro e; cases e; omega)
          replace hbW := Below.grownB hbW hg (by omega) hbW.size
          replace hnW := Nat.le_trans hnW hbk.size
          (try clear hA hC)
          have hX := hX2
          clear hX2 hg hbk
          generalize Wv = Wz at *
          refine pl_tail ?_
          refine tl_do rfl rfl (fun K hK => ?_)
          refine wp_store_blk rfl hY (by rfl) (vs := y.cells) (by rfl) row58 rfl (by simp [Tal.cells, Value.oneCell']) ?_
          intro Wv hY2 hg
          have hbk : Below (w.heap.size + 3) Wz Wv := Below.grownB (Below.refl _ _) hg hnY hnW
          refine hK _ _ ?_
          clear hK
          replace hX := hX.grown hg (by intro e; cases e; first | exact hxy rfl | exact hxy.symm rfl)
          replace hR := hR.grown hg (by intro e; cases e; omega)
          replace hbW := Below.grownB hbW hg (by omega) hbW.size
          replace hnW := Nat.le_trans hnW hbk.size
          (try clear hA hC)
          have hY := hY2
          clear hY2 hg hbk
          generalize Wv = Wz at *
          (try simp only [Act.put, List.setIfInBounds_toArray, List.set_cons_zero, List.set_cons_succ])
          refine tl_end ?_
          go_wp2_with fail
          go_meet
          case rel => exact ⟨bX, bY, rfl, rfl, (by first | exact hxy | exact hxy.symm), hnX, hnY, Lib.hid hX, Lib.hid hY, Lib.hid hR, Lib.hid hbW⟩
        · go_simp
          have hbk : Below Wz.heap.size Wz (Wz.alloc (.cells [Value.int .i64 0, .int .i64 0, .int .i64 0, .int .i64 0, .int .i64 0, .int .i64 0].toArray 58)) := (Below.refl _ _).alloc (Nat.le_refl _) _
          refine hK _ _ (hbk.mono hnW : Below (w.heap.size + 3) Wz _) ?_
          clear hK
          obtain ⟨bY, hbY⟩ : ∃ b, b = Wz.heap.size := ⟨_, rfl⟩
          have hY : Blk (Wz.alloc (.cells [Value.int .i64 0, .int .i64 0, .int .i64 0, .int .i64 0, .int .i64 0, .int .i64 0].toArray 58)) bY [Value.int .i64 0, .int .i64 0, .int .i64 0, .int .i64 0, .int .i64 0, .int .i64 0] := Blk.new' hbY
          have hnY : w.heap.size + 3 ≤ bY := by omega
          (try have hxy : bY ≠ bX := by have := hX.lt; omega)
          (try replace hA := hA.later hbk); (try replace hC := hC.later hbk); replace hR := hR.later hbk
          (try replace hX := hX.later hbk); skip
          replace hbW := below_step hbW hbk
          replace hnW : w.heap.size + 3 ≤ (Wz.alloc (.cells [Value.int .i64 0, .int .i64 0, .int .i64 0, .int .i64 0, .int .i64 0, .int .i64 0].toArray 58)).heap.size := Nat.le_trans hnW hbk.size
          rw [← hbY]
          clear hbk hbY
          generalize Wz.alloc (.cells [Value.int .i64 0, .int .i64 0, .int .i64 0, .int .i64 0, .int .i64 0, .int .i64 0].toArray 58) = Wz at *
          refine pl_one rfl rfl (fun K hK => ?_)
          go_simp
          have hbk : Below Wz.heap.size Wz (Wz.alloc (.cells [Value.int .i64 0, .int .i64 0, .int .i64 0, .int .i64 0, .int .i64 0, .int .i64 0].toArray 58)) := (Below.refl _ _).alloc (Nat.le_refl _) _
          refine hK _ _ (hbk.mono hnW : Below (w.heap.size + 3) Wz _) ?_
          clear hK
          obtain ⟨bX, hbX⟩ : ∃ b, b = Wz.heap.size := ⟨_, rfl⟩
          have hX : Blk (Wz.alloc (.cells [Value.int .i64 0, .int .i64 0, .int .i64 0, .int .i64 0, .int .i64 0, .int .i64 0].toArray 58)) bX [Value.int .i64 0, .int .i64 0, .int .i64 0, .int .i64 0, .int .i64 0, .int .i64 0] := Blk.new' hbX
          have hnX : w.heap.size + 3 ≤ bX := by omega
          (try have hxy : bX ≠ bY := by have := hY.lt; omega)
          (try replace hA := hA.later hbk); (try replace hC := hC.later hbk); replace hR := hR.later hbk
          skip; (try replace hY := hY.later hbk)
          replace hbW := below_step hbW hbk
          replace hnW : w.heap.size + 3 ≤ (Wz.alloc (.cells [Value.int .i64 0, .int .i64 0, .int .i64 0, .int .i64 0, .int .i64 0, .int .i64 0].toArray 58)).heap.size := Nat.le_trans hnW hbk.size
          rw [← hbX]
          clear hbk hbX
          generalize Wz.alloc (.cells [Value.int .i64 0, .int .i64 0, .int .i64 0, .int .i64 0, .int .i64 0, .int .i64 0].toArray 58) = Wz at *
          refine pl_one rfl rfl (fun K hK => ?_)
          refine wp_store_blk rfl hX (by rfl) (vs := x.cells) (by rfl) row58 rfl (by simp [Tal.cells, Value.oneCell']) ?_
          intro Wv hX2 hg
          have hbk : Below (w.heap.size + 3) Wz Wv := Below.grownB (Below.refl _ _) hg hnX hnW
          refine hK _ _ hbk ?_
          clear hK
          replace hY := hY.grown hg (by intro e; cases e; first | exact hxy rfl | exact hxy.symm rfl)
          replace hR := hR.grown hg (by intro e; cases e; omega)
          replace hbW := Below.grownB hbW hg (by omega) hbW.size
          replace hnW := Nat.le_trans hnW hbk.size
          (try clear hA hC)
          have hX := hX2
          clear hX2 hg hbk
          generalize Wv = Wz at *
          refine pl_tail ?_
          refine tl_do rfl rfl (fun K hK => ?_)
          refine wp_store_blk rfl hY (by rfl) (vs := y.cells) (by rfl) row58 rfl (by simp [Tal.cells, Value.oneCell']) ?_
          intro Wv hY2 hg
          have hbk : Below (w.heap.size + 3) Wz Wv := Below.grownB (Below.refl _ _) hg hnY hnW
          refine hK _ _ ?_
          clear hK
          replace hX := hX.grown hg (by intro e; cases e; first | exact hxy rfl | exact hxy.symm rfl)
          replace hR := hR.grown hg (by intro e; cases e; omega)
          replace hbW := Below.grownB hbW hg (by omega) hbW.size
          replace hnW := Nat.le_trans hnW hbk.size
          (try clear hA hC)
          have hY := hY2
          clear hY2 hg hbk
          generalize Wv = Wz at *
          (try simp only [Act.put, List.setIfInBounds_toArray, List.set_cons_zero, List.set_cons_succ])
          refine tl_end ?_
          go_wp2_with fail
          go_meet
          case rel => exact ⟨bX, bY, rfl, rfl, (by first | exact hxy | exact hxy.symm), hnX, hnY, Lib.hid hX, Lib.hid hY, Lib.hid hR, Lib.hid hbW⟩
      · go_simp
        have hbk : Below Wz.heap.size Wz (Wz.alloc (.cells [Value.int .i64 0, .int .i64 0, .int .i64 0, .int .i64 0, .int .i64 0, .int .i64 0].toArray 58)) := (Below.refl _ _).alloc (Nat.le_refl _) _
        refine hK _ _ (hbk.mono hnW : Below (w.heap.size + 3) Wz _) ?_
        clear hK
        obtain ⟨bX, hbX⟩ : ∃ b, b = Wz.heap.size := ⟨_, rfl⟩
        have hX : Blk (Wz.alloc (.cells [Value.int .i64 0, .int .i64 0, .int .i64 0, .int .i64 0, .int .i64 0, .int .i64 0].toArray 58)) bX [Value.int .i64 0, .int .i64 0, .int .i64 0, .int .i64 0, .int .i64 0, .int .i64 0] := Blk.new' hbX
        have hnX : w.heap.size + 3 ≤ bX := by omega
        (try have hxy : bX ≠ bY := by have := hY.lt; omega)
        (try replace hA := hA.later hbk); (try replace hC := hC.later hbk); replace hR := hR.later hbk
        skip; (try replace hY := hY.later hbk)
        replace hbW := below_step hbW hbk
        replace hnW : w.heap.size + 3 ≤ (Wz.alloc (.cells [Value.int .i64 0, .int .i64 0, .int .i64 0, .int .i64 0, .int .i64 0, .int .i64 0].toArray 58)).heap.size := Nat.le_trans hnW hbk.size
        rw [← hbX]
        clear hbk hbX
        generalize Wz.alloc (.cells [Value.int .i64 0, .int .i64 0, .int .i64 0, .int .i64 0, .int .i64 0, .int .i64 0].toArray 58) = Wz at *
        refine pl_two rfl rfl rfl rfl (fun K hK => ?_) (fun K hK => ?_)
        · go_simp
          refine (numbers30 y Wz).mono ?_
          rintro r Wv ⟨rfl, hbk⟩
          refine hK _ _ (hbk.mono hnW : Below (w.heap.size + 3) Wz Wv) ?_
          clear hK
          replace hnW : w.heap.size + 3 ≤ Wv.heap.size := Nat.le_trans hnW hbk.size
          (try replace hA := hA.later hbk); (try replace hC := hC.later hbk); replace hR := hR.later hbk
          (try replace hX := hX.later hbk); (try replace hY := hY.later hbk)
          replace hbW := below_step hbW hbk
          clear hbk
          generalize Wv = Wz at *
          refine pl_one rfl rfl (fun K hK => ?_)
          go_simp
          have hbk : Below Wz.heap.size Wz (Wz.alloc (.cells [Value.int .i64 0, .int .i64 0, .int .i64 0, .int .i64 0, .int .i64 0, .int .i64 0].toArray 58)) := (Below.refl _ _).alloc (Nat.le_refl _) _
          refine hK _ _ (hbk.mono hnW : Below (w.heap.size + 3) Wz _) ?_
          clear hK
          obtain ⟨bY, hbY⟩ : ∃ b, b = Wz.heap.size := ⟨_, rfl⟩
          have hY : Blk (Wz.alloc (.cells [Value.int .i64 0, .int .i64 0, .int .i64 0, .int .i64 0, .int .i64 0, .int .i64 0].toArray 58)) bY [Value.int .i64 0, .int .i64 0, .int .i64 0, .int .i64 0, .int .i64 0, .int .i64 0] := Blk.new' hbY
          have hnY : w.heap.size + 3 ≤ bY := by omega
          (try have hxy : bY ≠ bX := by have := hX.lt; omega)
          (try replace hA := hA.later hbk); (try replace hC := hC.later hbk); replace hR := hR.later hbk
          (try replace hX := hX.later hbk); skip
          replace hbW := below_step hbW hbk
          replace hnW : w.heap.size + 3 ≤ (Wz.alloc (.cells [Value.int .i64 0, .int .i64 0, .int .i64 0, .int .i64 0, .int .i64 0, .int .i64 0].toArray 58)).heap.size := Nat.le_trans hnW hbk.size
          rw [← hbY]
          clear hbk hbY
          generalize Wz.alloc (.cells [Value.int .i64 0, .int .i64 0, .int .i64 0, .int .i64 0, .int .i64 0, .int .i64 0].toArray 58) = Wz at *
          refine pl_one rfl rfl (fun K hK => ?_)
          refine wp_store_blk rfl hX (by rfl) (vs := x.cells) (by rfl) row58 rfl (by simp [Tal.cells, Value.oneCell']) ?_
          intro Wv hX2 hg
          have hbk : Below (w.heap.size + 3) Wz Wv := Below.grownB (Below.refl _ _) hg hnX hnW
          refine hK _ _ hbk ?_
          clear hK
          replace hY := hY.grown hg (by intro e; cases e; first | exact hxy rfl | exact hxy.symm rfl)
          replace hR := hR.grown hg (by intro e; cases e; omega)
          replace hbW := Below.grownB hbW hg (by omega) hbW.size
          replace hnW := Nat.le_trans hnW hbk.size
          (try clear hA hC)
          have hX := hX2
          clear hX2 hg hbk
          generalize Wv = Wz at *
          refine pl_tail ?_
          refine tl_do rfl rfl (fun K hK => ?_)
          refine wp_store_blk rfl hY (by rfl) (vs := y.cells) (by rfl) row58 rfl (by simp [Tal.cells, Value.oneCell']) ?_
          intro Wv hY2 hg
          have hbk : Below (w.heap.size + 3) Wz Wv := Below.grownB (Below.refl _ _) hg hnY hnW
          refine hK _ _ ?_
          clear hK
          replace hX := hX.grown hg (by intro e; cases e; first | exact hxy rfl | exact hxy.symm rfl)
          replace hR := hR.grown hg (by intro e; cases e; omega)
          replace hbW := Below.grownB hbW hg (by omega) hbW.size
          replace hnW := Nat.le_trans hnW hbk.size
          (try clear hA hC)
          have hY := hY2
          clear hY2 hg hbk
          generalize Wv = Wz at *
          (try simp only [Act.put, List.setIfInBounds_toArray, List.set_cons_zero, List.set_cons_succ])
          refine tl_end ?_
          go_wp2_with fail
          go_meet
          case rel => exact ⟨bX, bY, rfl, rfl, (by first | exact hxy | exact hxy.symm), hnX, hnY, Lib.hid hX, Lib.hid hY, Lib.hid hR, Lib.hid hbW⟩
        · go_simp
          have hbk : Below Wz.heap.size Wz (Wz.alloc (.cells [Value.int .i64 0, .int .i64 0, .int .i64 0, .int .i64 0, .int .i64 0, .int .i64 0].toArray 58)) := (Below.refl _ _).alloc (Nat.le_refl _) _
          refine hK _ _ (hbk.mono hnW : Below (w.heap.size + 3) Wz _) ?_
          clear hK
          obtain ⟨bY, hbY⟩ : ∃ b, b = Wz.heap.size := ⟨_, rfl⟩
          have hY : Blk (Wz.alloc (.cells [Value.int .i64 0, .int .i64 0, .int .i64 0, .int .i64 0, .int .i64 0, .int .i64 0].toArray 58)) bY [Value.int .i64 0, .int .i64 0, .int .i64 0, .int .i64 0, .int .i64 0, .int .i64 0] := Blk.new' hbY
          have hnY : w.heap.size + 3 ≤ bY := by omega
          (try have hxy : bY ≠ bX := by have := hX.lt; omega)
          (try replace hA := hA.later hbk); (try replace hC := hC.later hbk); replace hR := hR.later hbk
          (try replace hX := hX.later hbk); skip
          replace hbW := below_step hbW hbk
          replace hnW : w.heap.size + 3 ≤ (Wz.alloc (.cells [Value.int .i64 0, .int .i64 0, .int .i64 0, .int .i64 0, .int .i64 0, .int .i64 0].toArray 58)).heap.size := Nat.le_trans hnW hbk.size
          rw [← hbY]
          clear hbk hbY
          generalize Wz.alloc (.cells [Value.int .i64 0, .int .i64 0, .int .i64 0, .int .i64 0, .int .i64 0, .int .i64 0].toArray 58) = Wz at *
          refine pl_one rfl rfl (fun K hK => ?_)
          go_simp
          refine (numbers30 y Wz).mono ?_
          rintro r Wv ⟨rfl, hbk⟩
          refine hK _ _ (hbk.mono hnW : Below (w.heap.size + 3) Wz Wv) ?_
          clear hK
          replace hnW : w.heap.size + 3 ≤ Wv.heap.size := Nat.le_trans hnW hbk.size
          (try replace hA := hA.later hbk); (try replace hC := hC.later hbk); replace hR := hR.later hbk
          (try replace hX := hX.later hbk); (try replace hY := hY.later hbk)
          replace hbW := below_step hbW hbk
          clear hbk
          generalize Wv = Wz at *
          refine pl_one rfl rfl (fun K hK => ?_)
          refine wp_store_blk rfl hX (by rfl) (vs := x.cells) (by rfl) row58 rfl (by simp [Tal.cells, Value.oneCell']) ?_
          intro Wv hX2 hg
          have hbk : Below (w.heap.size + 3) Wz Wv := Below.grownB (Below.refl _ _) hg hnX hnW
          refine hK _ _ hbk ?_
          clear hK
          replace hY := hY.grown hg (by intro e; cases e; first | exact hxy rfl | exact hxy.symm rfl)
          replace hR := hR.grown hg (by intro e; cases e; omega)
          replace hbW := Below.grownB hbW hg (by omega) hbW.size
          replace hnW := Nat.le_trans hnW hbk.size
          (try clear hA hC)
          have hX := hX2
          clear hX2 hg hbk
          generalize Wv = Wz at *
          refine pl_tail ?_
          refine tl_do rfl rfl (fun K hK => ?_)
          refine wp_store_blk rfl hY (by rfl) (vs := y.cells) (by rfl) row58 rfl (by simp [Tal.cells, Value.oneCell']) ?_
          intro Wv hY2 hg
          have hbk : Below (w.heap.size + 3) Wz Wv := Below.grownB (Below.refl _ _) hg hnY hnW
          refine hK _ _ ?_
          clear hK
          replace hX := hX.grown hg (by intro e; cases e; first | exact hxy rfl | exact hxy.symm rfl)
          replace hR := hR.grown hg (by intro e; cases e; omega)
          replace hbW := Below.grownB hbW hg (by omega) hbW.size
          replace hnW := Nat.le_trans hnW hbk.size
          (try clear hA hC)
          have hY := hY2
          clear hY2 hg hbk
          generalize Wv = Wz at *
          (try simp only [Act.put, List.setIfInBounds_toArray, List.set_cons_zero, List.set_cons_succ])
          refine tl_end ?_
          go_wp2_with fail
          go_meet
          case rel => exact ⟨bX, bY, rfl, rfl, (by first | exact hxy | exact hxy.symm), hnX, hnY, Lib.hid hX, Lib.hid hY, Lib.hid hR, Lib.hid hbW⟩
      · go_simp
        have hbk : Below Wz.heap.size Wz (Wz.alloc (.cells [Value.int .i64 0, .int .i64 0, .int .i64 0, .int .i64 0, .int .i64 0, .int .i64 0].toArray 58)) := (Below.refl _ _).alloc (Nat.le_refl _) _
        refine hK _ _ (hbk.mono hnW : Below (w.heap.size + 3) Wz _) ?_
        clear hK
        obtain ⟨bY, hbY⟩ : ∃ b, b = Wz.heap.size := ⟨_, rfl⟩
        have hY : Blk (Wz.alloc (.cells [Value.int .i64 0, .int .i64 0, .int .i64 0, .int .i64 0, .int .i64 0, .int .i64 0].toArray 58)) bY [Value.int .i64 0, .int .i64 0, .int .i64 0, .int .i64 0, .int .i64 0, .int .i64 0] := Blk.new' hbY
        have hnY : w.heap.size + 3 ≤ bY := by omega
        (try have hxy : bY ≠ bX := by have := hX.lt; omega)
        (try replace hA := hA.later hbk); (try replace hC := hC.later hbk); replace hR := hR.later hbk
        (try replace hX := hX.later hbk); skip
        replace hbW := below_step hbW hbk
        replace hnW : w.heap.size + 3 ≤ (Wz.alloc (.cells [Value.int .i64 0, .int .i64 0, .int .i64 0, .int .i64 0, .int .i64 0, .int .i64 0].toArray 58)).heap.size := Nat.le_trans hnW hbk.size
        rw [← hbY]
        clear hbk hbY
        generalize Wz.alloc (.cells [Value.int .i64 0, .int .i64 0, .int .i64 0, .int .i64 0, .int .i64 0, .int .i64 0].toArray 58) = Wz at *
        refine pl_two rfl rfl rfl rfl (fun K hK => ?_) (fun K hK => ?_)
        · go_simp
          refine (numbers30 y Wz).mono ?_
          rintro r Wv ⟨rfl, hbk⟩
          refine hK _ _ (hbk.mono hnW : Below (w.heap.size + 3) Wz Wv) ?_
          clear hK
          replace hnW : w.heap.size + 3 ≤ Wv.heap.size := Nat.le_trans hnW hbk.size
          (try replace hA := hA.later hbk); (try replace hC := hC.later hbk); replace hR := hR.later hbk
          (try replace hX := hX.later hbk); (try replace hY := hY.later hbk)
          replace hbW := below_step hbW hbk
          clear hbk
          generalize Wv = Wz at *
          refine pl_one rfl rfl (fun K hK => ?_)
          go_simp
          have hbk : Below Wz.heap.size Wz (Wz.alloc (.cells [Value.int .i64 0, .int .i64 0, .int .i64 0, .int .i64 0, .int .i64 0, .int .i64 0].toArray 58)) := (Below.refl _ _).alloc (Nat.le_refl _) _
          refine hK _ _ (hbk.mono hnW : Below (w.heap.size + 3) Wz _) ?_
          clear hK
          obtain ⟨bX, hbX⟩ : ∃ b, b = Wz.heap.size := ⟨_, rfl⟩
          have hX : Blk (Wz.alloc (.cells [Value.int .i64 0, .int .i64 0, .int .i64 0, .int .i64 0, .int .i64 0, .int .i64 0].toArray 58)) bX [Value.int .i64 0, .int .i64 0, .int .i64 0, .int .i64 0, .int .i64 0, .int .i64 0] := Blk.new' hbX
          have hnX : w.heap.size + 3 ≤ bX := by omega
          (try have hxy : bX ≠ bY := by have := hY.lt; omega)
          (try replace hA := hA.later hbk); (try replace hC := hC.later hbk); replace hR := hR.later hbk
          skip; (try replace hY := hY.later hbk)
          replace hbW := below_step hbW hbk
          replace hnW : w.heap.size + 3 ≤ (Wz.alloc (.cells [Value.int .i64 0, .int .i64 0, .int .i64 0, .int .i64 0, .int .i64 0, .int .i64 0].toArray 58)).heap.size := Nat.le_trans hnW hbk.size
          rw [← hbX]
          clear hbk hbX
          generalize Wz.alloc (.cells [Value.int .i64 0, .int .i64 0, .int .i64 0, .int .i64 0, .int .i64 0, .int .i64 0].toArray 58) = Wz at *
          refine pl_one rfl rfl (fun K hK => ?_)
          refine wp_store_blk rfl hX (by rfl) (vs := x.cells) (by rfl) row58 rfl (by simp [Tal.cells, Value.oneCell']) ?_
          intro Wv hX2 hg
          have hbk : Below (w.heap.size + 3) Wz Wv := Below.grownB (Below.refl _ _) hg hnX hnW
          refine hK _ _ hbk ?_
          clear hK
          replace hY := hY.grown hg (by intro e; cases e; first | exact hxy rfl | exact hxy.symm rfl)
          replace hR := hR.grown hg (by intro e; cases e; omega)
          replace hbW := Below.grownB hbW hg (by omega) hbW.size
          replace hnW := Nat.le_trans hnW hbk.size
          (try clear hA hC)
          have hX := hX2
          clear hX2 hg hbk
          generalize Wv = Wz at *
          refine pl_tail ?_
          refine tl_do rfl rfl (fun K hK => ?_)
          refine wp_store_blk rfl hY (by rfl) (vs := y.cells) (by rfl) row58 rfl (by simp [Tal.cells, Value.oneCell']) ?_
          intro Wv hY2 hg
          have hbk : Below (w.heap.size + 3) Wz Wv := Below.grownB (Below.refl _ _) hg hnY hnW
          refine hK _ _ ?_
          clear hK
          replace hX := hX.grown hg (by intro e; cases e; first | exact hxy rfl | exact hxy.symm rfl)
          replace hR := hR.grown hg (by intro e; cases e; omega)
          replace hbW := Below.grownB hbW hg (by omega) hbW.size
          replace hnW := Nat.le_trans hnW hbk.size
          (try clear hA hC)
          have hY := hY2
          clear hY2 hg hbk
          generalize Wv = Wz at *
          (try simp only [Act.put, List.setIfInBounds_toArray, List.set_cons_zero, List.set_cons_succ])
          refine tl_end ?_
          go_wp2_with fail
          go_meet
          case rel => exact ⟨bX, bY, rfl, rfl, (by first | exact hxy | exact hxy.symm), hnX, hnY, Lib.hid hX, Lib.hid hY, Lib.hid hR, Lib.hid hbW⟩
        · go_simp
          have hbk : Below Wz.heap.size Wz (Wz.alloc (.cells [Value.int .i64 0, .int .i64 0, .int .i64 0, .int .i64 0, .int .i64 0, .int .i64 0].toArray 58)) := (Below.refl _ _).alloc (Nat.le_refl _) _
          refine hK _ _ (hbk.mono hnW : Below (w.heap.size + 3) Wz _) ?_
          clear hK
          obtain ⟨bX, hbX⟩ : ∃ b, b = Wz.heap.size := ⟨_, rfl⟩
          have hX : Blk (Wz.alloc (.cells [Value.int .i64 0, .int .i64 0, .int .i64 0, .int .i64 0, .int .i64 0, .int .i64 0].toArray 58)) bX [Value.int .i64 0, .int .i64 0, .int .i64 0, .int .i64 0, .int .i64 0, .int .i64 0] := Blk.new' hbX
          have hnX : w.heap.size + 3 ≤ bX := by omega
          (try have hxy : bX ≠ bY := by have := hY.lt; omega)
          (try replace hA := hA.later hbk); (try replace hC := hC.later hbk); replace hR := hR.later hbk
          skip; (try replace hY := hY.later hbk)
          replace hbW := below_step hbW hbk
          replace hnW : w.heap.size + 3 ≤ (Wz.alloc (.cells [Value.int .i64 0, .int .i64 0, .int .i64 0, .int .i64 0, .int .i64 0, .int .i64 0].toArray 58)).heap.size := Nat.le_trans hnW hbk.size
          rw [← hbX]
          clear hbk hbX
          generalize Wz.alloc (.cells [Value.int .i64 0, .int .i64 0, .int .i64 0, .int .i64 0, .int .i64 0, .int .i64 0].toArray 58) = Wz at *
          refine pl_one rfl rfl (fun K hK => ?_)
          go_simp
          refine (numbers30 y Wz).mono ?_
          rintro r Wv ⟨rfl, hbk⟩
          refine hK _ _ (hbk.mono hnW : Below (w.heap.size + 3) Wz Wv) ?_
          clear hK
          replace hnW : w.heap.size + 3 ≤ Wv.heap.size := Nat.le_trans hnW hbk.size
          (try replace hA := hA.later hbk); (try replace hC := hC.later hbk); replace hR := hR.later hbk
          (try replace hX := hX.later hbk); (try replace hY := hY.later hbk)
          replace hbW := below_step hbW hbk
          clear hbk
          generalize Wv = Wz at *
          refine pl_one rfl rfl (fun K hK => ?_)
          refine wp_store_blk rfl hX (by rfl) (vs := x.cells) (by rfl) row58 rfl (by simp [Tal.cells, Value.oneCell']) ?_
          intro Wv hX2 hg
          have hbk : Below (w.heap.size + 3) Wz Wv := Below.grownB (Below.refl _ _) hg hnX hnW
          refine hK _ _ hbk ?_
          clear hK
          replace hY := hY.grown hg (by intro e; cases e; first | exact hxy rfl | exact hxy.symm rfl)
          replace hR := hR.grown hg (by intro e; cases e; omega)
          replace hbW := Below.grownB hbW hg (by omega) hbW.size
          replace hnW := Nat.le_trans hnW hbk.size
          (try clear hA hC)
          have hX := hX2
          clear hX2 hg hbk
          generalize Wv = Wz at *
          refine pl_tail ?_
          refine tl_do rfl rfl (fun K hK => ?_)
          refine wp_store_blk rfl hY (by rfl) (vs := y.cells) (by rfl) row58 rfl (by simp [Tal.cells, Value.oneCell']) ?_
          intro Wv hY2 hg
          have hbk : Below (w.heap.size + 3) Wz Wv := Below.grownB (Below.refl _ _) hg hnY hnW
          refine hK _ _ ?_
          clear hK
          replace hX := hX.grown hg (by intro e; cases e; first | exact hxy rfl | exact hxy.symm rfl)
          replace hR := hR.grown hg (by intro e; cases e; omega)
          replace hbW := Below.grownB hbW hg (by omega) hbW.size
          replace hnW := Nat.le_trans hnW hbk.size
          (try clear hA hC)
          have hY := hY2
          clear hY2 hg hbk
          generalize Wv = Wz at *
          (try simp only [Act.put, List.setIfInBounds_toArray, List.set_cons_zero, List.set_cons_succ])
          refine tl_end ?_
          go_wp2_with fail
          go_meet
          case rel => exact ⟨bX, bY, rfl, rfl, (by first | exact hxy | exact hxy.symm), hnX, hnY, Lib.hid hX, Lib.hid hY, Lib.hid hR, Lib.hid hbW⟩
    · go_simp
      have hbk : Below Wz.heap.size Wz (Wz.alloc (.cells [Value.int .i64 0, .int .i64 0, .int .i64 0, .int .i64 0, .int .i64 0, .int .i64 0].toArray 58)) := (Below.refl _ _).alloc (Nat.le_refl _) _
      refine hK _ _ (hbk.mono hnW : Below (w.heap.size + 3) Wz _) ?_
      clear hK
      obtain ⟨bX, hbX⟩ : ∃ b, b = Wz.heap.size := ⟨_, rfl⟩
      have hX : Blk (Wz.alloc (.cells [Value.int .i64 0, .int .i64 0, .int .i64 0, .int .i64 0, .int .i64 0, .int .i64 0].toArray 58)) bX [Value.int .i64 0, .int .i64 0, .int .i64 0, .int .i64 0, .int .i64 0, .int .i64 0] := Blk.new' hbX
      have hnX : w.heap.size + 3 ≤ bX := by omega
      (try have hxy : bX ≠ bY := by have := hY.lt; omega)
      (try replace hA := hA.later hbk); (try replace hC := hC.later hbk); replace hR := hR.later hbk
      skip; (try replace hY := hY.later hbk)
      replace hbW := below_step hbW hbk
      replace hnW : w.heap.size + 3 ≤ (Wz.alloc (.cells [Value.int .i64 0, .int .i64 0, .int .i64 0, .int .i64 0, .int .i64 0, .int .i64 0].toArray 58)).heap.size := Nat.le_trans hnW hbk.size
      rw [← hbX]
      clear hbk hbX
      generalize Wz.alloc (.cells [Value.int .i64 0, .int .i64 0, .int .i64 0, .int .i64 0, .int .i64 0, .int .i64 0].toArray 58) = Wz at *
      refine pl_two rfl rfl rfl rfl (fun K hK => ?_) (fun K hK => ?_)
      · go_simp
        refine (numbers30 x Wz).mono ?_
        rintro r Wv ⟨rfl, hbk⟩
        refine hK _ _ (hbk.mono hnW : Below (w.heap.size + 3) Wz Wv) ?_
        clear hK
        replace hnW : w.heap.size + 3 ≤ Wv.heap.size := Nat.le_trans hnW hbk.size
        (try replace hA := hA.later hbk); (try replace hC := hC.later hbk); replace hR := hR.later hbk
        (try replace hX := hX.later hbk); (try replace hY := hY.later hbk)
        replace hbW := below_step hbW hbk
        clear hbk
        generalize Wv = Wz at *
        refine pl_two rfl rfl rfl rfl (fun K hK => ?_) (fun K hK => ?_)
        · go_simp
          refine (numbers30 y Wz).mono ?_
          rintro r Wv ⟨rfl, hbk⟩
          refine hK _ _ (hbk.mono hnW : Below (w.heap.size + 3) Wz Wv) ?_
          clear hK
          replace hnW : w.heap.size + 3 ≤ Wv.heap.size := Nat.le_trans hnW hbk.size
          (try replace hA := hA.later hbk); (try replace hC := hC.later hbk); replace hR := hR.later hbk
          (try replace hX := hX.later hbk); (try replace hY := hY.later hbk)
          replace hbW := below_step hbW hbk
          clear hbk
          generalize Wv = Wz at *
          refine pl_one rfl rfl (fun K hK => ?_)
          go_simp
          have hbk : Below Wz.heap.size Wz (Wz.alloc (.cells [Value.int .i64 0, .int .i64 0, .int .i64 0, .int .i64 0, .int .i64 0, .int .i64 0].toArray 58)) := (Below.refl _ _).alloc (Nat.le_refl _) _
          refine hK _ _ (hbk.mono hnW : Below (w.heap.size + 3) Wz _) ?_
          clear hK
          obtain ⟨bY, hbY⟩ : ∃ b, b = Wz.heap.size := ⟨_, rfl⟩
          have hY : Blk (Wz.alloc (.cells [Value.int .i64 0, .int .i64 0, .int .i64 0, .int .i64 0, .int .i64 0, .int .i64 0].toArray 58)) bY [Value.int .i64 0, .int .i64 0, .int .i64 0, .int .i64 0, .int .i64 0, .int .i64 0] := Blk.new' hbY
          have hnY : w.heap.size + 3 ≤ bY := by omega
          (try have hxy : bY ≠ bX := by have := hX.lt; omega)
          (try replace hA := hA.later hbk); (try replace hC := hC.later hbk); replace hR := hR.later hbk
          (try replace hX := hX.later hbk); skip
          replace hbW := below_step hbW hbk
          replace hnW : w.heap.size + 3 ≤ (Wz.alloc (.cells [Value.int .i64 0, .int .i64 0, .int .i64 0, .int .i64 0, .int .i64 0, .int .i64 0].toArray 58)).heap.size := Nat.le_trans hnW hbk.size
          rw [← hbY]
          clear hbk hbY
          generalize Wz.alloc (.cells [Value.int .i64 0, .int .i64 0, .int .i64 0, .int .i64 0, .int .i64 0, .int .i64 0].toArray 58) = Wz at *
          refine pl_one rfl rfl (fun K hK => ?_)
          refine wp_store_blk rfl hX (by rfl) (vs := x.cells) (by rfl) row58 rfl (by simp [Tal.cells, Value.oneCell']) ?_
          intro Wv hX2 hg
          have hbk : Below (w.heap.size + 3) Wz Wv := Below.grownB (Below.refl _ _) hg hnX hnW
          refine hK _ _ hbk ?_
          clear hK
          replace hY := hY.grown hg (by intro e; cases e; first | exact hxy rfl | exact hxy.symm rfl)
          replace hR := hR.grown hg (by intro e; cases e; omega)
          replace hbW := Below.grownB hbW hg (by omega) hbW.size
          replace hnW := Nat.le_trans hnW hbk.size
          (try clear hA hC)
          have hX := hX2
          clear hX2 hg hbk
          generalize Wv = Wz at *
          refine pl_tail ?_
          refine tl_do rfl rfl (fun K hK => ?_)
          refine wp_store_blk rfl hY (by rfl) (vs := y.cells) (by rfl) row58 rfl (by simp [Tal.cells, Value.oneCell']) ?_
          intro Wv hY2 hg
          have hbk : Below (w.heap.size + 3) Wz Wv := Below.grownB (Below.refl _ _) hg hnY hnW
          refine hK _ _ ?_
          clear hK
          replace hX := hX.grown hg (by intro e; cases e; first | exact hxy rfl | exact hxy.symm rfl)
          replace hR := hR.grown hg (by intro e; cases e; omega)
          replace hbW := Below.grownB hbW hg (by omega) hbW.size
          replace hnW := Nat.le_trans hnW hbk.size
          (try clear hA hC)
          have hY := hY2
          clear hY2 hg hbk
          generalize Wv = Wz at *
          (try simp only [Act.put, List.setIfInBounds_toArray, List.set_cons_zero, List.set_cons_succ])
          refine tl_end ?_
          go_wp2_with fail
          go_meet
          case rel => exact ⟨bX, bY, rfl, rfl, (by first | exact hxy | exact hxy.symm), hnX, hnY, Lib.hid hX, Lib.hid hY, Lib.hid hR, Lib.hid hbW⟩
        · go_simp
          have hbk : Below Wz.heap.size Wz (Wz.alloc (.cells [Value.int .i64 0, .int .i64 0, .int .i64 0, .int .i64 0, .int .i64 0, .int .i64 0].toArray 58)) := (Below.refl _ _).alloc (Nat.le_refl _) _
          refine hK _ _ (hbk.mono hnW : Below (w.heap.size + 3) Wz _) ?_
          clear hK
          obtain ⟨bY, hbY⟩ : ∃ b, b = Wz.heap.size := ⟨_, rfl⟩
          have hY : Blk (Wz.alloc (.cells [Value.int .i64 0, .int .i64 0, .int .i64 0, .int .i64 0, .int .i64 0, .int .i64 0].toArray 58)) bY [Value.int .i64 0, .int .i64 0, .int .i64 0, .int .i64 0, .int .i64 0, .int .i64 0] := Blk.new' hbY
          have hnY : w.heap.size + 3 ≤ bY := by omega
          (try have hxy : bY ≠ bX := by have := hX.lt; omega)
          (try replace hA := hA.later hbk); (try replace hC := hC.later hbk); replace hR := hR.later hbk
          (try replace hX := hX.later hbk); skip
          replace hbW := below_step hbW hbk
          replace hnW : w.heap.size + 3 ≤ (Wz.alloc (.cells [Value.int .i64 0, .int .i64 0, .int .i64 0, .int .i64 0, .int .i64 0, .int .i64 0].toArray 58)).heap.size := Nat.le_trans hnW hbk.size
          rw [← hbY]
          clear hbk hbY
          generalize Wz.alloc (.cells [Value.int .i64 0, .int .i64 0, .int .i64 0, .int .i64 0, .int .i64 0, .int .i64 0].toArray 58) = Wz at *
          refine pl_one rfl rfl (fun K hK => ?_)
          go_simp
          refine (numbers30 y Wz).mono ?_
          rintro r Wv ⟨rfl, hbk⟩
          refine hK _ _ (hbk.mono hnW : Below (w.heap.size + 3) Wz Wv) ?_
          clear hK
          replace hnW : w.heap.size + 3 ≤ Wv.heap.size := Nat.le_trans hnW hbk.size
          (try replace hA := hA.later hbk); (try replace hC := hC.later hbk); replace hR := hR.later hbk
          (try replace hX := hX.later hbk); (try replace hY := hY.later hbk)
          replace hbW := below_step hbW hbk
          clear hbk
          generalize Wv = Wz at *
          refine pl_one rfl rfl (fun K hK => ?_)
          refine wp_store_blk rfl hX (by rfl) (vs := x.cells) (by rfl) row58 rfl (by simp [Tal.cells, Value.oneCell']) ?_
          intro Wv hX2 hg
          have hbk : Below (w.heap.size + 3) Wz Wv := Below.grownB (Below.refl _ _) hg hnX hnW
          refine hK _ _ hbk ?_
          clear hK
          replace hY := hY.grown hg (by intro e; cases e; first | exact hxy rfl | exact hxy.symm rfl)
          replace hR := hR.grown hg (by intro e; cases e; omega)
          replace hbW := Below.grownB hbW hg (by omega) hbW.size
          replace hnW := Nat.le_trans hnW hbk.size
          (try clear hA hC)
          have hX := hX2
          clear hX2 hg hbk
          generalize Wv = Wz at *
          refine pl_tail ?_
          refine tl_do rfl rfl (fun K hK => ?_)
          refine wp_store_blk rfl hY (by rfl) (vs := y.cells) (by rfl) row58 rfl (by simp [Tal.cells, Value.oneCell']) ?_
          intro Wv hY2 hg
          have hbk : Below (w.heap.size + 3) Wz Wv := Below.grownB (Below.refl _ _) hg hnY hnW
          refine hK _ _ ?_
          clear hK
          replace hX := hX.grown hg (by intro e; cases e; first | exact hxy rfl | exact hxy.symm rfl)
          replace hR := hR.grown hg (by intro e; cases e; omega)
          replace hbW := Below.grownB hbW hg (by omega) hbW.size
          replace hnW := Nat.le_trans hnW hbk.size
          (try clear hA hC)
          have hY := hY2
          clear hY2 hg hbk
          generalize Wv = Wz at *
          (try simp only [Act.put, List.setIfInBounds_toArray, List.set_cons_zero, List.set_cons_succ])
          refine tl_end ?_
          go_wp2_with fail
          go_meet
          case rel => exact ⟨bX, bY, rfl, rfl, (by first | exact hxy | exact hxy.symm), hnX, hnY, Lib.hid hX, Lib.hid hY, Lib.hid hR, Lib.hid hbW⟩
      · go_simp
        have hbk : Below Wz.heap.size Wz (Wz.alloc (.cells [Value.int .i64 0, .int .i64 0, .int .i64 0, .int .i64 0, .int .i64 0, .int .i64 0].toArray 58)) := (Below.refl _ _).alloc (Nat.le_refl _) _
        refine hK _ _ (hbk.mono hnW : Below (w.heap.size + 3) Wz _) ?_
        clear hK
        obtain ⟨bY, hbY⟩ : ∃ b, b = Wz.heap.size := ⟨_, rfl⟩
        have hY : Blk (Wz.alloc (.cells [Value.int .i64 0, .int .i64 0, .int .i64 0, .int .i64 0, .int .i64 0, .int .i64 0].toArray 58)) bY [Value.int .i64 0, .int .i64 0, .int .i64 0, .int .i64 0, .int .i64 0, .int .i64 0] := Blk.new' hbY
        have hnY : w.heap.size + 3 ≤ bY := by omega
        (try have hxy : bY ≠ bX := by have := hX.lt; omega)
        (try replace hA := hA.later hbk); (try replace hC := hC.later hbk); replace hR := hR.later hbk
        (try replace hX := hX.later hbk); skip
        replace hbW := below_step hbW hbk
        replace hnW : w.heap.size + 3 ≤ (Wz.alloc (.cells [Value.int .i64 0, .int .i64 0, .int .i64 0, .int .i64 0, .int .i64 0, .int .i64 0].toArray 58)).heap.size := Nat.le_trans hnW hbk.size
        rw [← hbY]
        clear hbk hbY
        generalize Wz.alloc (.cells [Value.int .i64 0, .int .i64 0, .int .i64 0, .int .i64 0, .int .i64 0, .int .i64 0].toArray 58) = Wz at *
        refine pl_one rfl rfl (fun K hK => ?_)
        go_simp
        refine (numbers30 x Wz).mono ?_
        rintro r Wv ⟨rfl, hbk⟩
        refine hK _ _ (hbk.mono hnW : Below (w.heap.size + 3) Wz Wv) ?_
        clear hK
        replace hnW : w.heap.size + 3 ≤ Wv.heap.size := Nat.le_trans hnW hbk.size
        (try replace hA := hA.later hbk); (try replace hC := hC.later hbk); replace hR := hR.later hbk
        (try replace hX := hX.later hbk); (try replace hY := hY.later hbk)
        replace hbW := below_step hbW hbk
        clear hbk
        generalize Wv = Wz at *
        refine pl_one rfl rfl (fun K hK => ?_)
        go_simp
        refine (numbers30 y Wz).mono ?_
        rintro r Wv ⟨rfl, hbk⟩
        refine hK _ _ (hbk.mono hnW : Below (w.heap.size + 3) Wz Wv) ?_
        clear hK
        replace hnW : w.heap.size + 3 ≤ Wv.heap.size := Nat.le_trans hnW hbk.size
        (try replace hA := hA.later hbk); (try replace hC := hC.later hbk); replace hR := hR.later hbk
        (try replace hX := hX.later hbk); (try replace hY := hY.later hbk)
        replace hbW := below_step hbW hbk
        clear hbk
        generalize Wv = Wz at *
        refine pl_one rfl rfl (fun K hK => ?_)
        refine wp_store_blk rfl hX (by rfl) (vs := x.cells) (by rfl) row58 rfl (by simp [Tal.cells, Value.oneCell']) ?_
        intro Wv hX2 hg
        have hbk : Below (w.heap.size + 3) Wz Wv := Below.grownB (Below.refl _ _) hg hnX hnW
        refine hK _ _ hbk ?_
        clear hK
        replace hY := hY.grown hg (by intro e; cases e; first | exact hxy rfl | exact hxy.symm rfl)
        replace hR := hR.grown hg (by intro e; cases e; omega)
        replace hbW := Below.grownB hbW hg (by omega) hbW.size
        replace hnW := Nat.le_trans hnW hbk.size
        (try clear hA hC)
        have hX := hX2
        clear hX2 hg hbk
        generalize Wv = Wz at *
        refine pl_tail ?_
        refine tl_do rfl rfl (fun K hK => ?_)
        refine wp_store_blk rfl hY (by rfl) (vs := y.cells) (by rfl) row58 rfl (by simp [Tal.cells, Value.oneCell']) ?_
        intro Wv hY2 hg
        have hbk : Below (w.heap.size + 3) Wz Wv := Below.grownB (Below.refl _ _) hg hnY hnW
        refine hK _ _ ?_
        clear hK
        replace hX := hX.grown hg (by intro e; cases e; first | exact hxy rfl | exact hxy.symm rfl)
        replace hR := hR.grown hg (by intro e; cases e; omega)
        replace hbW := Below.grownB hbW hg (by omega) hbW.size
        replace hnW := Nat.le_trans hnW hbk.size
        (try clear hA hC)
        have hY := hY2
        clear hY2 hg hbk
        generalize Wv = Wz at *
        (try simp only [Act.put, List.setIfInBounds_toArray, List.set_cons_zero, List.set_cons_succ])
        refine tl_end ?_
        go_wp2_with fail
        go_meet
        case rel => exact ⟨bX, bY, rfl, rfl, (by first | exact hxy | exact hxy.symm), hnX, hnY, Lib.hid hX, Lib.hid hY, Lib.hid hR, Lib.hid hbW⟩
    · go_simp
      have hbk : Below Wz.heap.size Wz (Wz.alloc (.cells [Value.int .i64 0, .int .i64 0, .int .i64 0, .int .i64 0, .int .i64 0, .int .i64 0].toArray 58)) := (Below.refl _ _).alloc (Nat.le_refl _) _
      refine hK _ _ (hbk.mono hnW : Below (w.heap.size + 3) Wz _) ?_
      clear hK
      obtain ⟨bY, hbY⟩ : ∃ b, b = Wz.heap.size := ⟨_, rfl⟩
      have hY : Blk (Wz.alloc (.cells [Value.int .i64 0, .int .i64 0, .int .i64 0, .int .i64 0, .int .i64 0, .int .i64 0].toArray 58)) bY [Value.int .i64 0, .int .i64 0, .int .i64 0, .int .i64 0, .int .i64 0, .int .i64 0] := Blk.new' hbY
      have hnY : w.heap.size + 3 ≤ bY := by omega
      (try have hxy : bY ≠ bX := by have := hX.lt; omega)
      (try replace hA := hA.later hbk); (try replace hC := hC.later hbk); replace hR := hR.later hbk
      (try replace hX := hX.later hbk); skip
      replace hbW := below_step hbW hbk
      replace hnW : w.heap.size + 3 ≤ (Wz.alloc (.cells [Value.int .i64 0, .int .i64 0, .int .i64 0, .int .i64 0, .int .i64 0, .int .i64 0].toArray 58)).heap.size := Nat.le_trans hnW hbk.size
      rw [← hbY]
      clear hbk hbY
      generalize Wz.alloc (.cells [Value.int .i64 0, .int .i64 0, .int .i64 0, .int .i64 0, .int .i64 0, .int .i64 0].toArray 58) = Wz at *
      refine pl_two rfl rfl rfl rfl (fun K hK => ?_) (fun K hK => ?_)
      · go_simp
        refine (numbers30 x Wz).mono ?_
        rintro r Wv ⟨rfl, hbk⟩
        refine hK _ _ (hbk.mono hnW : Below (w.heap.size + 3) Wz Wv) ?_
        clear hK
        replace hnW : w.heap.size + 3 ≤ Wv.heap.size := Nat.le_trans hnW hbk.size
        (try replace hA := hA.later hbk); (try replace hC := hC.later hbk); replace hR := hR.later hbk
        (try replace hX := hX.later hbk); (try replace hY := hY.later hbk)
        replace hbW := below_step hbW hbk
        clear hbk
        generalize Wv = Wz at *
        refine pl_two rfl rfl rfl rfl (fun K hK => ?_) (fun K hK => ?_)
        · go_simp
          refine (numbers30 y Wz).mono ?_
          rintro r Wv ⟨rfl, hbk⟩
          refine hK _ _ (hbk.mono hnW : Below (w.heap.size + 3) Wz Wv) ?_
          clear hK
          replace hnW : w.heap.size + 3 ≤ Wv.heap.size := Nat.le_trans hnW hbk.size
          (try replace hA := hA.later hbk); (try replace hC := hC.later hbk); replace hR := hR.later hbk
          (try replace hX := hX.later hbk); (try replace hY := hY.later hbk)
          replace hbW := below_step hbW hbk
          clear hbk
          generalize Wv = Wz at *
          refine pl_one rfl rfl (fun K hK => ?_)
          go_simp
          have hbk : Below Wz.heap.size Wz (Wz.alloc (.cells [Value.int .i64 0, .int .i64 0, .int .i64 0, .int .i64 0, .int .i64 0, .int .i64 0].toArray 58)) := (Below.refl _ _).alloc (Nat.le_refl _) _
          refine hK _ _ (hbk.mono hnW : Below (w.heap.size + 3) Wz _) ?_
          clear hK
          obtain ⟨bX, hbX⟩ : ∃ b, b = Wz.heap.size := ⟨_, rfl⟩
          have hX : Blk (Wz.alloc (.cells [Value.int .i64 0, .int .i64 0, .int .i64 0, .int .i64 0, .int .i64 0, .int .i64 0].toArray 58)) bX [Value.int .i64 0, .int .i64 0, .int .i64 0, .int .i64 0, .int .i64 0, .int .i64 0] := Blk.new' hbX
          have hnX : w.heap.size + 3 ≤ bX := by omega
          (try have hxy : bX ≠ bY := by have := hY.lt; omega)
          (try replace hA := hA.later hbk); (try replace hC := hC.later hbk); replace hR := hR.later hbk
          skip; (try replace hY := hY.later hbk)
          replace hbW := below_step hbW hbk
          replace hnW : w.heap.size + 3 ≤ (Wz.alloc (.cells [Value.int .i64 0, .int .i64 0, .int .i64 0, .int .i64 0, .int .i64 0, .int .i64 0].toArray 58)).heap.size := Nat.le_trans hnW hbk.size
          rw [← hbX]
          clear hbk hbX
          generalize Wz.alloc (.cells [Value.int .i64 0, .int .i64 0, .int .i64 0, .int .i64 0, .int .i64 0, .int .i64 0].toArray 58) = Wz at *
          refine pl_one rfl rfl (fun K hK => ?_)
          refine wp_store_blk rfl hX (by rfl) (vs := x.cells) (by rfl) row58 rfl (by simp [Tal.cells, Value.oneCell']) ?_
          intro Wv hX2 hg
          have hbk : Below (w.heap.size + 3) Wz Wv := Below.grownB (Below.refl _ _) hg hnX hnW
          refine hK _ _ hbk ?_
          clear hK
          replace hY := hY.grown hg (by intro e; cases e; first | exact hxy rfl | exact hxy.symm rfl)
          replace hR := hR.grown hg (by intro e; cases e; omega)
          replace hbW := Below.grownB hbW hg (by omega) hbW.size
          replace hnW := Nat.le_trans hnW hbk.size
          (try clear hA hC)
          have hX := hX2
          clear hX2 hg hbk
          generalize Wv = Wz at *
          refine pl_tail ?_
          refine tl_do rfl rfl (fun K hK => ?_)
          refine wp_store_blk rfl hY (by rfl) (vs := y.cells) (by rfl) row58 rfl (by simp [Tal.cells, Value.oneCell']) ?_
          intro Wv hY2 hg
          have hbk : Below (w.heap.size + 3) Wz Wv := Below.grownB (Below.refl _ _) hg hnY hnW
          refine hK _ _ ?_
          clear hK
          replace hX := hX.grown hg (by intro e; cases e; first | exact hxy rfl | exact hxy.symm rfl)
          replace hR := hR.grown hg (by intro e; cases e; omega)
          replace hbW := Below.grownB hbW hg (by omega) hbW.size
          replace hnW := Nat.le_trans hnW hbk.size
          (try clear hA hC)
          have hY := hY2
          clear hY2 hg hbk
          generalize Wv = Wz at *
          (try simp only [Act.put, List.setIfInBounds_toArray, List.set_cons_zero, List.set_cons_succ])
          refine tl_end ?_
          go_wp2_with fail
          go_meet
          case rel => exact ⟨bX, bY, rfl, rfl, (by first | exact hxy | exact hxy.symm), hnX, hnY, Lib.hid hX, Lib.hid hY, Lib.hid hR, Lib.hid hbW⟩
        · go_simp
          have hbk : Below Wz.heap.size Wz (Wz.alloc (.cells [Value.int .i64 0, .int .i64 0, .int .i64 0, .int .i64 0, .int .i64 0, .int .i64 0].toArray 58)) := (Below.refl _ _).alloc (Nat.le_refl _) _
          refine hK _ _ (hbk.mono hnW : Below (w.heap.size + 3) Wz _) ?_
          clear hK
          obtain ⟨bX, hbX⟩ : ∃ b, b = Wz.heap.size := ⟨_, rfl⟩
          have hX : Blk (Wz.alloc (.cells [Value.int .i64 0, .int .i64 0, .int .i64 0, .int .i64 0, .int .i64 0, .int .i64 0].toArray 58)) bX [Value.int .i64 0, .int .i64 0, .int .i64 0, .int .i64 0, .int .i64 0, .int .i64 0] := Blk.new' hbX
          have hnX : w.heap.size + 3 ≤ bX := by omega
          (try have hxy : bX ≠ bY := by have := hY.lt; omega)
          (try replace hA := hA.later hbk); (try replace hC := hC.later hbk); replace hR := hR.later hbk
          skip; (try replace hY := hY.later hbk)
          replace hbW := below_step hbW hbk
          replace hnW : w.heap.size + 3 ≤ (Wz.alloc (.cells [Value.int .i64 0, .int .i64 0, .int .i64 0, .int .i64 0, .int .i64 0, .int .i64 0].toArray 58)).heap.size := Nat.le_trans hnW hbk.size
          rw [← hbX]
          clear hbk hbX
          generalize Wz.alloc (.cells [Value.int .i64 0, .int .i64 0, .int .i64 0, .int .i64 0, .int .i64 0, .int .i64 0].toArray 58) = Wz at *
          refine pl_one rfl rfl (fun K hK => ?_)
          go_simp
          refine (numbers30 y Wz).mono ?_
          rintro r Wv ⟨rfl, hbk⟩
          refine hK _ _ (hbk.mono hnW : Below (w.heap.size + 3) Wz Wv) ?_
          clear hK
          replace hnW : w.heap.size + 3 ≤ Wv.heap.size := Nat.le_trans hnW hbk.size
          (try replace hA := hA.later hbk); (try replace hC := hC.later hbk); replace hR := hR.later hbk
          (try replace hX := hX.later hbk); (try replace hY := hY.later hbk)
          replace hbW := below_step hbW hbk
          clear hbk
          generalize Wv = Wz at *
          refine pl_one rfl rfl (fun K hK => ?_)
          refine wp_store_blk rfl hX (by rfl) (vs := x.cells) (by rfl) row58 rfl (by simp [Tal.cells, Value.oneCell']) ?_
          intro Wv hX2 hg
          have hbk : Below (w.heap.size + 3) Wz Wv := Below.grownB (Below.refl _ _) hg hnX hnW
          refine hK _ _ hbk ?_
          clear hK
          replace hY := hY.grown hg (by intro e; cases e; first | exact hxy rfl | exact hxy.symm rfl)
          replace hR := hR.grown hg (by intro e; cases e; omega)
          replace hbW := Below.grownB hbW hg (by omega) hbW.size
          replace hnW := Nat.le_trans hnW hbk.size
          (try clear hA hC)
          have hX := hX2
          clear hX2 hg hbk
          generalize Wv = Wz at *
          refine pl_tail ?_
          refine tl_do rfl rfl (fun K hK => ?_)
          refine wp_store_blk rfl hY (by rfl) (vs := y.cells) (by rfl) row58 rfl (by simp [Tal.cells, Value.oneCell']) ?_
          intro Wv hY2 hg
          have hbk : Below (w.heap.size + 3) Wz Wv := Below.grownB (Below.refl _ _) hg hnY hnW
          refine hK _ _ ?_
          clear hK
          replace hX := hX.grown hg (by intro e; cases e; first | exact hxy rfl | exact hxy.symm rfl)
          replace hR := hR.grown hg (by intro e; cases e; omega)
          replace hbW := Below.grownB hbW hg (by omega) hbW.size
          replace hnW := Nat.le_trans hnW hbk.size
          (try clear hA hC)
          have hY := hY2
          clear hY2 hg hbk
          generalize Wv = Wz at *
          (try simp only [Act.put, List.setIfInBounds_toArray, List.set_cons_zero, List.set_cons_succ])
          refine tl_end ?_
          go_wp2_with fail
          go_meet
          case rel => exact ⟨bX, bY, rfl, rfl, (by first | exact hxy | exact hxy.symm), hnX, hnY, Lib.hid hX, Lib.hid hY, Lib.hid hR, Lib.hid hbW⟩
      · go_simp
        have hbk : Below Wz.heap.size Wz (Wz.alloc (.cells [Value.int .i64 0, .int .i64 0, .int .i64 0, .int .i64 0, .int .i64 0, .int .i64 0].toArray 58)) := (Below.refl _ _).alloc (Nat.le_refl _) _
        refine hK _ _ (hbk.mono hnW : Below (w.heap.size + 3) Wz _) ?_
        clear hK
        obtain ⟨bX, hbX⟩ : ∃ b, b = Wz.heap.size := ⟨_, rfl⟩
        have hX : Blk (Wz.alloc (.cells [Value.int .i64 0, .int .i64 0, .int .i64 0, .int .i64 0, .int .i64 0, .int .i64 0].toArray 58)) bX [Value.int .i64 0, .int .i64 0, .int .i64 0, .int .i64 0, .int .i64 0, .int .i64 0] := Blk.new' hbX
        have hnX : w.heap.size + 3 ≤ bX := by omega
        (try have hxy : bX ≠ bY := by have := hY.lt; omega)
        (try replace hA := hA.later hbk); (try replace hC := hC.later hbk); replace hR := hR.later hbk
        skip; (try replace hY := hY.later hbk)
        replace hbW := below_step hbW hbk
        replace hnW : w.heap.size + 3 ≤ (Wz.alloc (.cells [Value.int .i64 0, .int .i64 0, .int .i64 0, .int .i64 0, .int .i64 0, .int .i64 0].toArray 58)).heap.size := Nat.le_trans hnW hbk.size
        rw [← hbX]
        clear hbk hbX
        generalize Wz.alloc (.cells [Value.int .i64 0, .int .i64 0, .int .i64 0, .int .i64 0, .int .i64 0, .int .i64 0].toArray 58) = Wz at *
        refine pl_one rfl rfl (fun K hK => ?_)
        go_simp
        refine (numbers30 x Wz).mono ?_
        rintro r Wv ⟨rfl, hbk⟩
        refine hK _ _ (hbk.mono hnW : Below (w.heap.size + 3) Wz Wv) ?_
        clear hK
        replace hnW : w.heap.size + 3 ≤ Wv.heap.size := Nat.le_trans hnW hbk.size
        (try replace hA := hA.later hbk); (try replace hC := hC.later hbk); replace hR := hR.later hbk
        (try replace hX := hX.later hbk); (try replace hY := hY.later hbk)
        replace hbW := below_step hbW hbk
        clear hbk
        generalize Wv = Wz at *
        refine pl_one rfl rfl (fun K hK => ?_)
        go_simp
        refine (numbers30 y Wz).mono ?_
        rintro r Wv ⟨rfl, hbk⟩
        refine hK _ _ (hbk.mono hnW : Below (w.heap.size + 3) Wz Wv) ?_
        clear hK
        replace hnW : w.heap.size + 3 ≤ Wv.heap.size := Nat.le_trans hnW hbk.size
        (try replace hA := hA.later hbk); (try replace hC := hC.later hbk); replace hR := hR.later hbk
        (try replace hX := hX.later hbk); (try replace hY := hY.later hbk)
        replace hbW := below_step hbW hbk
        clear hbk
        generalize Wv = Wz at *
        refine pl_one rfl rfl (fun K hK => ?_)
        refine wp_store_blk rfl hX (by rfl) (vs := x.cells) (by rfl) row58 rfl (by simp [Tal.cells, Value.oneCell']) ?_
        intro Wv hX2 hg
        have hbk : Below (w.heap.size + 3) Wz Wv := Below.grownB (Below.refl _ _) hg hnX hnW
        refine hK _ _ hbk ?_
        clear hK
        replace hY := hY.grown hg (by intro e; cases e; first | exact hxy rfl | exact hxy.symm rfl)
        replace hR := hR.grown hg (by intro e; cases e; omega)
        replace hbW := Below.grownB hbW hg (by omega) hbW.size
        replace hnW := Nat.le_trans hnW hbk.size
        (try clear hA hC)
        have hX := hX2
        clear hX2 hg hbk
        generalize Wv = Wz at *
        refine pl_tail ?_
        refine tl_do rfl rfl (fun K hK => ?_)
        refine wp_store_blk rfl hY (by rfl) (vs := y.cells) (by rfl) row58 rfl (by simp [Tal.cells, Value.oneCell']) ?_
        intro Wv hY2 hg
        have hbk : Below (w.heap.size + 3) Wz Wv := Below.grownB (Below.refl _ _) hg hnY hnW
        refine hK _ _ ?_
        clear hK
        replace hX := hX.grown hg (by intro e; cases e; first | exact hxy rfl | exact hxy.symm rfl)
        replace hR := hR.grown hg (by intro e; cases e; omega)
        replace hbW := Below.grownB hbW hg (by omega) hbW.size
        replace hnW := Nat.le_trans hnW hbk.size
        (try clear hA hC)
        have hY := hY2
        clear hY2 hg hbk
        generalize Wv = Wz at *
        (try simp only [Act.put, List.setIfInBounds_toArray, List.set_cons_zero, List.set_cons_succ])
        refine tl_end ?_
        go_wp2_with fail
        go_meet
        case rel => exact ⟨bX, bY, rfl, rfl, (by first | exact hxy | exact hxy.symm), hnX, hnY, Lib.hid hX, Lib.hid hY, Lib.hid hR, Lib.hid hbW⟩
  case rest =>
    obtain ⟨bX, bY, rfl, rfl, hyx, hnX, hnY, hX, hY, hR, hB⟩ := hcut
    have hxy : bX ≠ bY := Ne.symm hyx
    generalize wc = w4 at *
    rw [cells_turn x (fun i => .int .i64 (wrap64 (nth x i + nth y i)))] at hX
    go_wp2_with fail
    go_loopw [7, 12] (fun _ u wr => ∃ k : Nat, k ≤ 6 ∧ u = .int .i64 k ∧ Hid (Blk wr bX (turnTo (fun i => .int .i64 (wrap64 (nth x i + nth y i))) (fun i => .int .i64 (nth x i)) k 6)) ∧ Hid (Blk wr bY y.cells) ∧ Hid (Blk wr (w.heap.size + 2) t0.cells) ∧ Hid (Below w.heap.size w wr)) (fun _ u _ => 6 - (intOf u).toNat)
    case atStart => exact ⟨0, by omega, rfl, hX, hY, hR, hB⟩
    case round =>
      obtain ⟨k, hk, rfl, hX, hY, hR, hB⟩ := hrel
      by_cases hlt : k < 6
      · have hi1 : (k : Int) < 6 := by omega
        have rk : IntKind.i64.wrap ((k : Int) + 1) = ((k + 1 : Nat) : Int) := by
          rw [IntKind.wrap_i64]; omega
        go_wp2_with fail
        refine wp_region_plan none [8] [] (.take 0 (.take 1 (.take 2 (.take 3 (.take 4 (.take 5 (.take 6 (.take 7 (.tail [8]))))))))) (by kernel_rfl) (by kernel_rfl) (fun _ _ dd _ _ h => by cases dd <;> exact h) ?_
        intro W0 hW0
        have hX0 : Blk W0 bX (turnTo (fun i => .int .i64 (wrap64 (nth x i + nth y i))) (fun i => .int .i64 (nth x i)) k 6) := by rw [hW0]; exact hX.out.drew
        have hY0 : Blk W0 bY y.cells := by rw [hW0]; exact hY.out.drew
        have hR0 : Blk W0 (w.heap.size + 2) t0.cells := by rw [hW0]; exact hR.out.drew
        have hbW : Below w.heap.size w W0 := by rw [hW0]; exact hB.out.drew
        have fz := hX0.froz
        have lz := hX0.lt
        have cz := hX0.at' k (by simp [length_turnTo]; omega)
        rw [turnTo_get _ _ k 6 k (by omega), if_neg (by omega)] at cz
        clear hW0
        (refine pl_take (d := 15) (v := ?_) rfl rfl rfl ?_ ?_; rotate_left; (focus ((intro w' hb0 hw'; go_simp) <;> with_reducible rfl)); simp only [Act.put, List.setIfInBounds_toArray, List.set_cons_zero, List.set_cons_succ])
        (refine pl_take (d := 16) (v := ?_) rfl rfl rfl ?_ ?_; rotate_left; (focus ((intro w' hb0 hw'; go_simp) <;> with_reducible rfl)); simp only [Act.put, List.setIfInBounds_toArray, List.set_cons_zero, List.set_cons_succ])
        (refine pl_take (d := 17) (v := ?_) rfl rfl rfl ?_ ?_; rotate_left; (focus ((intro w' hb0 hw'; have hc := hX0.later hw'; have c := hc.at' k (by simp [length_turnTo]; omega); rw [List.getElem_of_eq rfl, turnTo_get _ _ k 6 k (by omega), if_neg (by omega)] at c; go_simp) <;> with_reducible rfl)); simp only [Act.put, List.setIfInBounds_toArray, List.set_cons_zero, List.set_cons_succ])
        (refine pl_take (d := 18) (v := ?_) rfl rfl rfl ?_ ?_; rotate_left; (focus ((intro w' hb0 hw'; go_simp) <;> with_reducible rfl)); simp only [Act.put, List.setIfInBounds_toArray, List.set_cons_zero, List.set_cons_succ])
        (refine pl_take (d := 19) (v := ?_) rfl rfl rfl ?_ ?_; rotate_left; (focus ((intro w' hb0 hw'; go_simp) <;> with_reducible rfl)); simp only [Act.put, List.setIfInBounds_toArray, List.set_cons_zero, List.set_cons_succ])
        (refine pl_take (d := 20) (v := ?_) rfl rfl rfl ?_ ?_; rotate_left; (focus ((intro w' hb0 hw'; have hc := hY0.later hw'; have c := hc.at' k (by rw [cells_len]; omega); rw [cells_get y k (by omega)] at c; go_simp) <;> with_reducible rfl)); simp only [Act.put, List.setIfInBounds_toArray, List.set_cons_zero, List.set_cons_succ])
        (refine pl_take (d := 21) (v := ?_) rfl rfl rfl ?_ ?_; rotate_left; (focus ((intro w' hb0 hw'; go_simp) <;> with_reducible rfl)); simp only [Act.put, List.setIfInBounds_toArray, List.set_cons_zero, List.set_cons_succ])
        (refine pl_take (d := 22) (v := ?_) rfl rfl rfl ?_ ?_; rotate_left; (focus ((intro w' hb0 hw'; go_simp) <;> with_reducible rfl)); simp only [Act.put, List.setIfInBounds_toArray, List.set_cons_zero, List.set_cons_succ])
        refine pl_tail ?_
        refine tl_do rfl rfl (fun K hK => ?_)
        go_simp
        refine hK _ _ ?_
        clear hK
        have hX2 := hX0.set k (by simp [length_turnTo]; omega) (.int .i64 (wrap64 (nth x k + nth y k)))
        have hY2 := hY0.setOther (a := ⟨bX, k, none⟩) hxy (.int .i64 (wrap64 (nth x k + nth y k)))
        have hR2 := hR0.setOther (a := ⟨bX, k, none⟩) (by simp only; omega) (.int .i64 (wrap64 (nth x k + nth y k)))
        have hB2 := hbW.setCell (p := ⟨bX, k, none⟩) (by simp only; omega) (.int .i64 (wrap64 (nth x k + nth y k)))
        have HX2 := Lib.hid hX2; have HY2 := Lib.hid hY2; have HR2 := Lib.hid hR2; have HB2 := Lib.hid hB2
        clear hX2 hY2 hR2 hB2
        (try simp only [Act.put, List.setIfInBounds_toArray, List.set_cons_zero, List.set_cons_succ])
        refine tl_end ?_
        go_wp2_with fail
        go_roundw
        case measure => (simp [intOf]) <;> omega
        case rel => exact ⟨k + 1, by omega, rfl, Lib.hid (by rw [← turnTo_set]; exact HX2.out), HY2, HR2, HB2⟩
      · obtain rfl : k = 6 := by omega
        rw [cells_add] at hX
        go_wp2_with (refine stop_load (ty := 58) rfl ?_)
        refine ⟨wpList_load_blk rfl rfl hX.out (by rfl) row58 ?_⟩
        clear hX hY
        go_wp2_with fail
        refine (tally31 (addT x y) wr).mono ?_
        rintro r w6 ⟨rfl, hbk⟩
        replace hR := Lib.hid (hR.out.later hbk)
        replace hB := Lib.hid (below_step hB.out hbk)
        clear hbk
        go_wp2_with (refine stop_store (ty := 33) rfl ?_)
        refine ⟨wpList_store_blk rfl rfl hR.out (by rfl) (vs := (addT x y).cells) (by rfl) row33 rfl (by simp [Tal.cells, Value.oneCell']) ?_⟩
        intro W5 hR5 hg5
        have hb5 := Below.grownB hB.out hg5 (by omega) hB.out.size
        have HR5 := Lib.hid hR5; have HB5 := Lib.hid hb5; clear hR5 hb5 hg5 hR hB
        go_wp2
        exact ret_blk (b := w.heap.size + 2) rfl (by rfl) HR5.out row33 rfl ⟨rfl, HB5.out⟩

def sumTo (t : Tal) : Nat → Int
  | 0 => 0
  | k + 1 => wrap64 (sumTo t k + nth t k)
theorem sum_five (t : Tal) : sumTo t 5 = packT t := by
  simp only [sumTo, packT, nth, List.getD_cons_zero, List.getD_cons_succ]
  simp only [Int.zero_add, wrap_wrap]
theorem packets21 (t : Tal) (w : World) : Calls Try.prog 21 #[.agg t.cells.toArray] w fun e w' => e = .returned (.int .i64 (packT t)) ∧ Below w.heap.size w w' := by
  have hal : Below w.heap.size w (w.alloc (.cells t.cells.toArray 33)) := (Below.refl _ _).alloc (Nat.le_refl _) _
  have HB := Lib.hid hal; clear hal
  obtain ⟨th, tw, tr, ts, tO, tb⟩ := t
  obtain ⟨t, ht⟩ : ∃ t, t = (⟨th, tw, tr, ts, tO, tb⟩ : Tal) := ⟨_, rfl⟩
  rw [← ht] at HB ⊢
  have HN := numbers30 t
  have HT : Hid (t.cells = [.int .i64 th, .int .i64 tw, .int .i64 tr, .int .i64 ts, .int .i64 tO, .int .i64 tb]) := by show _ = _; rw [ht]; rfl
  rw [HT.out] at HB HN ⊢
  go_enter Try.func21, Try.ntmps21
  go_wp2_with fail
  refine (HN _).mono ?_
  rintro r w1 ⟨rfl, hbk⟩
  replace HB := Lib.hid (below_step HB.out hbk)
  have hal : Below w1.heap.size w1 (w1.alloc (.cells t.cells.toArray 58)) := (Below.refl _ _).alloc (Nat.le_refl _) _
  have HX : Hid (Blk (w1.alloc (.cells t.cells.toArray 58)) w1.heap.size t.cells) := Blk.new' rfl
  have HB2 := Lib.hid (below_step HB.out hal)
  rw [HT.out] at HB2
  clear hbk hal HN HB
  go_wp2_with fail
  have HX2 : Hid (Blk (w1.alloc (.cells #[.int .i64 th, .int .i64 tw, .int .i64 tr, .int .i64 ts, .int .i64 tO, .int .i64 tb] 58)) w1.heap.size t.cells) := by rw [HT.out] at HX ⊢; exact HX.out
  clear HX HT ht
  go_loopw [3, 6, 11] (fun s _ u wr => ∃ k : Nat, k ≤ 5 ∧ u = .int .i64 k ∧ s = .int .i64 (sumTo t k) ∧ Hid (Blk wr w1.heap.size t.cells) ∧ Hid (Below w.heap.size w wr)) (fun _ _ u _ => 5 - (intOf u).toNat)
  case atStart => exact ⟨0, by omega, rfl, rfl, HX2, HB2⟩
  case round =>
    obtain ⟨k, hk, rfl, rfl, hX, hB⟩ := hrel
    by_cases hlt : k < 5
    · have hi1 : (k : Int) < 5 := by omega
      have rk : IntKind.i64.wrap ((k : Int) + 1) = ((k + 1 : Nat) : Int) := by
        rw [IntKind.wrap_i64]; omega
      have c := hX.out.at' k (by rw [cells_len]; omega)
      rw [cells_get t k (by omega)] at c
      have hl := hX.out.lt
      have HS : Hid (wrap64 (sumTo t k + nth t k) = sumTo t (k + 1)) := rfl
      go_wp2_with fail
      go_roundw
      case measure => (simp [intOf]) <;> omega
      case rel => exact ⟨k + 1, by omega, rfl, by rw [HS.out], hX, hB⟩
    · obtain rfl : k = 5 := by omega
      rw [sum_five]
      go_wp2
      refine bodyPost_ret (v := .int .i64 (packT t)) (by simp [results, Try.results21, go_sem]) rfl ⟨rfl, hB.out⟩
end Go.Proofs.Ythobmcpilfalgaa
