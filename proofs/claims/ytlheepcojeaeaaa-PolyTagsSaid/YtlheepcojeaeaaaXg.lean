/-
  Walks of the document's answer: cleared bits.
-/
import Derived.Test.YtlheepcojeaeaaaXf
namespace Go.Proofs.Ytlheepcojeaeaaa
open Go.RowKit Go.Proofs.Ytlheepcojeaeaaa.PlanB Go.Proofs.Ytlheepcojeaeaaa.Eager
set_option maxHeartbeats 1000000
set_option maxRecDepth 4000
set_option linter.unusedVariables false
set_option linter.unusedSimpArgs false

theorem list16 (X : List UInt8) (h : X.length = 16) : ∃ a b c d e f g i j k l m n o p q, X = [a, b, c, d, e, f, g, i, j, k, l, m, n, o, p, q] := by
  match X, h with
  | [a, b, c, d, e, f, g, i, j, k, l, m, n, o, p, q], _ => exact ⟨a, b, c, d, e, f, g, i, j, k, l, m, n, o, p, q, rfl⟩
theorem and15 (x : UInt8) : (x.toNat : Int) % 16 = ((x &&& 15).toNat : Int) := by
  rw [UInt8.toNat_and, show (15 : UInt8).toNat = 2 ^ 4 - 1 from rfl, Nat.and_two_pow_sub_one_eq_mod]; rfl
theorem and252n : ∀ n : Fin 256, n.val &&& 252 = n.val - n.val % 4 := by decide
theorem and252 (x : UInt8) : IntKind.u8.wrap ((x.toNat : Int) - ((x.toNat % 4 : Nat) : Int)) = ((x &&& 252).toNat : Int) := by
  rw [UInt8.toNat_and, show (252 : UInt8).toNat = 252 from rfl, and252n ⟨x.toNat, x.toNat_lt⟩, IntKind.wrap_u8]
  have := x.toNat_lt
  simp only; omega

theorem refClamp_nil (l : List UInt8) (w : World) (oa : Option Addr) (n c : Nat) (h : Reads w oa n l) (hl : l.length < 16) :
    Calls Try.prog 12 #[.slice oa n c] w fun r w' => r = .returned (.slice none 0 0) ∧ w' = w := by
  obtain rfl : n = l.length := h.len
  have hl' : (l.length : Int) < 16 := by omega
  clear h
  go_enter Try.func12, Try.ntmps12
  go_wp2
  refine bodyPost_ret (v := .slice none 0 0) (by simp [results, Try.results12, go_sem]) rfl ⟨rfl, rfl⟩

theorem refClamp12 (l : List UInt8) (w : World) (oa : Option Addr) (n c : Nat) (h : Reads w oa n l) (hl : ¬ l.length < 16) (hc : n ≤ c) (hm : c ≤ maxLen) :
    Calls Try.prog 12 #[.slice oa n c] w (RowOut w ((clampM l).map By)) := by
  obtain rfl : n = l.length := h.len
  have hl' : ¬ (l.length : Int) < 16 := by omega
  have hc' : (16 : Int) ≤ (c : Int) := by omega
  have hcell := (h.cells).take 16
  rw [← List.map_take] at hcell
  obtain ⟨X, hX⟩ : ∃ X, l.take 16 = X := ⟨_, rfl⟩
  have hXl : X.length = 16 := by rw [← hX]; simp; omega
  have hcl : clampM l = clampM X := by
    unfold clampM
    apply List.map_congr_left
    intro i hi
    have hi' : i < 16 := by simpa using hi
    rw [← hX]
    simp [List.getD_eq_getElem?_getD, List.getElem?_take, hi']
  rw [hX] at hcell
  rw [hcl]
  clear hX hcl
  obtain ⟨x0, x1, x2, x3, x4, x5, x6, x7, x8, x9, x10, x11, x12, x13, x14, x15, rfl⟩ := list16 X hXl
  have HE : Hid ((clampM [x0, x1, x2, x3, x4, x5, x6, x7, x8, x9, x10, x11, x12, x13, x14, x15]).map By = [By x0, By x1, By x2, By (x3 &&& 15), By (x4 &&& 252), By x5, By x6, By (x7 &&& 15), By (x8 &&& 252), By x9, By x10, By (x11 &&& 15), By (x12 &&& 252), By x13, By x14, By (x15 &&& 15)]) := rfl
  have r3 := and15 x3
  generalize x3 &&& 15 = y3 at *
  have r7 := and15 x7
  generalize x7 &&& 15 = y7 at *
  have r11 := and15 x11
  generalize x11 &&& 15 = y11 at *
  have r15 := and15 x15
  generalize x15 &&& 15 = y15 at *
  have s4 := and252 x4
  generalize x4 &&& 252 = y4 at *
  have s8 := and252 x8
  generalize x8 &&& 252 = y8 at *
  have s12 := and252 x12
  generalize x12 &&& 252 = y12 at *
  have HS := Lib.hid (And.intro s4 (And.intro s8 s12))
  clear s4 s8 s12
  have HC := Lib.hid hcell; clear h hcell hXl
  have HM := Lib.hid hm; clear hm
  go_enter Try.func12, Try.ntmps12
  go_wp2_with (refine stop_append rfl ?_)
  have h0 := Own.lit w [] 5 1 0 (by simp [maxLen]) rfl w.heap.size (Nat.le_refl _)
  refine ⟨wpList_app el23 rfl rfl (by rfl) h0 (by rfl) (m := 16) (by simp) (HC.out.alloc _) (By_oneCell _) (by simp [maxLen]) (by omega) (by simp) ?_⟩
  intro v w1 hown hg
  obtain ⟨g, cp, rfl, hn, hcm, hbg, hblk⟩ := hown.blk (by omega)
  have hb1 : Below w.heap.size w w1 := h0.below hg ((Below.refl _ _).alloc (Nat.le_refl _) _) (Nat.le_refl _) (by simp)
  rw [List.nil_append, List.map_cons, List.map_cons, List.map_cons, List.map_cons, List.map_cons, List.map_cons, List.map_cons, List.map_cons, List.map_cons, List.map_cons, List.map_cons, List.map_cons, List.map_cons, List.map_cons, List.map_cons, List.map_cons, List.map_nil] at hblk
  have HG := Lib.hid hblk; have HB1 := Lib.hid hb1; have HGE := Lib.hid hbg
  have hgl := hblk.lt; have cz := hblk.froz
  have c3 : w1.cell? ⟨g, 3, none⟩ = some (.int .u8 (x3.toNat : Int)) := hblk.at' 3 (by simp)
  have c7 : w1.cell? ⟨g, 7, none⟩ = some (.int .u8 (x7.toNat : Int)) := hblk.at' 7 (by simp)
  have c11 : w1.cell? ⟨g, 11, none⟩ = some (.int .u8 (x11.toNat : Int)) := hblk.at' 11 (by simp)
  have c15 : w1.cell? ⟨g, 15, none⟩ = some (.int .u8 (x15.toNat : Int)) := hblk.at' 15 (by simp)
  clear h0 hblk hb1 hg hown hbg
  go_wp2_with fail
  have hB : Blk ((((w1.setCell ⟨g, 3, none⟩ (By y3)).setCell ⟨g, 7, none⟩ (By y7)).setCell ⟨g, 11, none⟩ (By y11)).setCell ⟨g, 15, none⟩ (By y15)) g
      [By x0, By x1, By x2, By y3, By x4, By x5, By x6, By y7, By x8, By x9, By x10, By y11, By x12, By x13, By x14, By y15] := (((HG.out.set 3 (by simp) _).set 7 (by simp) _).set 11 (by simp) _).set 15 (by simp) _
  have hb : Below w.heap.size w ((((w1.setCell ⟨g, 3, none⟩ (By y3)).setCell ⟨g, 7, none⟩ (By y7)).setCell ⟨g, 11, none⟩ (By y11)).setCell ⟨g, 15, none⟩ (By y15)) :=
    (((HB1.out.setCell HGE.out _).setCell HGE.out _).setCell HGE.out _).setCell HGE.out _
  unfold By at hB hb
  have HB := Lib.hid hB; have HBB := Lib.hid hb
  clear hB hb c3 c7 c11 c15 r3 r7 r11 r15 hgl cz HG HB1
  generalize (((w1.setCell ⟨g, 3, none⟩ (.int .u8 (y3.toNat : Int))).setCell ⟨g, 7, none⟩ (.int .u8 (y7.toNat : Int))).setCell ⟨g, 11, none⟩ (.int .u8 (y11.toNat : Int))).setCell ⟨g, 15, none⟩ (.int .u8 (y15.toNat : Int)) = W2 at *
  refine wp_region_plan none [10] [] (.take 0 (.take 1 (.take 2 (.take 3 (.take 4 (.take 5 (.take 6 (.take 7 (.take 8 (.take 9 (.tail [10]))))))))))) (by kernel_rfl) (by kernel_rfl) (fun _ _ dd _ _ h => by cases dd <;> exact h) ?_
  intro W0 hW0
  have hbW : Below w.heap.size w W0 := by rw [hW0]; exact HBB.out.drew
  have hBW := HB.out.drew
  rw [← hW0] at hBW
  clear hW0 HB HBB
  have s1 : (x4.toNat : Int).tmod 4 = ((x4.toNat % 4 : Nat) : Int) := trem_nat _ 4
  have s2 := HS.out.1
  generalize x4.toNat % 4 = z4 at *
  (refine pl_take (d := 35) (v := ?_) rfl rfl rfl ?_ ?_; rotate_left; (focus ((intro w' hb0 hw'; go_simp) <;> with_reducible rfl)); simp only [Act.put, List.setIfInBounds_toArray, List.set_cons_zero, List.set_cons_succ])
  (refine pl_take (d := 36) (v := ?_) rfl rfl rfl ?_ ?_; rotate_left; (focus ((intro w' hb0 hw'; go_simp) <;> with_reducible rfl)); simp only [Act.put, List.setIfInBounds_toArray, List.set_cons_zero, List.set_cons_succ])
  (refine pl_take (d := 37) (v := ?_) rfl rfl rfl ?_ ?_; rotate_left; (focus ((intro w' hb0 hw'; go_simp) <;> with_reducible rfl)); simp only [Act.put, List.setIfInBounds_toArray, List.set_cons_zero, List.set_cons_succ])
  (refine pl_take (d := 38) (v := ?_) rfl rfl rfl ?_ ?_; rotate_left; (focus ((intro w' hb0 hw'; have q0 : w'.cell? ⟨g, 4, none⟩ = some (.int .u8 (x4.toNat : Int)) := (hw'.cell (p := ⟨g, 4, none⟩) hBW.lt).trans (hBW.at' 4 (by simp)); go_simp) <;> with_reducible rfl)); simp only [Act.put, List.setIfInBounds_toArray, List.set_cons_zero, List.set_cons_succ])
  (refine pl_take (d := 39) (v := ?_) rfl rfl rfl ?_ ?_; rotate_left; (focus ((intro w' hb0 hw'; go_simp) <;> with_reducible rfl)); simp only [Act.put, List.setIfInBounds_toArray, List.set_cons_zero, List.set_cons_succ])
  (refine pl_take (d := 40) (v := ?_) rfl rfl rfl ?_ ?_; rotate_left; (focus ((intro w' hb0 hw'; go_simp) <;> with_reducible rfl)); simp only [Act.put, List.setIfInBounds_toArray, List.set_cons_zero, List.set_cons_succ])
  (refine pl_take (d := 41) (v := ?_) rfl rfl rfl ?_ ?_; rotate_left; (focus ((intro w' hb0 hw'; have q0 : w'.cell? ⟨g, 4, none⟩ = some (.int .u8 (x4.toNat : Int)) := (hw'.cell (p := ⟨g, 4, none⟩) hBW.lt).trans (hBW.at' 4 (by simp)); go_simp) <;> with_reducible rfl)); simp only [Act.put, List.setIfInBounds_toArray, List.set_cons_zero, List.set_cons_succ])
  (refine pl_take (d := 42) (v := ?_) rfl rfl rfl ?_ ?_; rotate_left; (focus ((intro w' hb0 hw'; go_simp) <;> with_reducible rfl)); simp only [Act.put, List.setIfInBounds_toArray, List.set_cons_zero, List.set_cons_succ])
  (refine pl_take (d := 43) (v := ?_) rfl rfl rfl ?_ ?_; rotate_left; (focus ((intro w' hb0 hw'; go_simp) <;> with_reducible rfl)); simp only [Act.put, List.setIfInBounds_toArray, List.set_cons_zero, List.set_cons_succ])
  (refine pl_take (d := 44) (v := ?_) rfl rfl rfl ?_ ?_; rotate_left; (focus ((intro w' hb0 hw'; go_simp) <;> with_reducible rfl)); simp only [Act.put, List.setIfInBounds_toArray, List.set_cons_zero, List.set_cons_succ])
  refine pl_tail ?_
  refine tl_do rfl rfl (fun K hK => ?_)
  have cz := hBW.froz
  have hgl := hBW.lt
  have q0 : W0.cell? ⟨g, 4, none⟩ = some (.int .u8 (x4.toNat : Int)) := hBW.at' 4 (by simp)
  go_simp
  refine hK _ _ ?_
  clear hK cz hgl q0
  have hBF := hBW.set 4 (by simp) (.int .u8 (y4.toNat : Int))
  have hbF := hbW.setCell (p := ⟨g, 4, none⟩) HGE.out (.int .u8 (y4.toNat : Int))
  generalize W0.setCell ⟨g, 4, none⟩ (.int .u8 (y4.toNat : Int)) = WF at *
  (try simp only [Act.put, List.setIfInBounds_toArray, List.set_cons_zero, List.set_cons_succ])
  refine tl_end ?_
  clear s1 s2
  have HBB := Lib.hid hbF; have HB := Lib.hid hBF
  clear hbF hBF hbW hBW
  simp only [List.set_cons_zero, List.set_cons_succ] at HB
  go_wp2_with fail
  refine wp_region_plan none [10] [] (.take 0 (.take 1 (.take 2 (.take 3 (.take 4 (.take 5 (.take 6 (.take 7 (.take 8 (.take 9 (.tail [10]))))))))))) (by kernel_rfl) (by kernel_rfl) (fun _ _ dd _ _ h => by cases dd <;> exact h) ?_
  intro W0 hW0
  have hbW : Below w.heap.size w W0 := by rw [hW0]; exact HBB.out.drew
  have hBW := HB.out.drew
  rw [← hW0] at hBW
  clear hW0 HB HBB
  have s1 : (x8.toNat : Int).tmod 4 = ((x8.toNat % 4 : Nat) : Int) := trem_nat _ 4
  have s2 := HS.out.2.1
  generalize x8.toNat % 4 = z8 at *
  (refine pl_take (d := 45) (v := ?_) rfl rfl rfl ?_ ?_; rotate_left; (focus ((intro w' hb0 hw'; go_simp) <;> with_reducible rfl)); simp only [Act.put, List.setIfInBounds_toArray, List.set_cons_zero, List.set_cons_succ])
  (refine pl_take (d := 46) (v := ?_) rfl rfl rfl ?_ ?_; rotate_left; (focus ((intro w' hb0 hw'; go_simp) <;> with_reducible rfl)); simp only [Act.put, List.setIfInBounds_toArray, List.set_cons_zero, List.set_cons_succ])
  (refine pl_take (d := 47) (v := ?_) rfl rfl rfl ?_ ?_; rotate_left; (focus ((intro w' hb0 hw'; go_simp) <;> with_reducible rfl)); simp only [Act.put, List.setIfInBounds_toArray, List.set_cons_zero, List.set_cons_succ])
  (refine pl_take (d := 48) (v := ?_) rfl rfl rfl ?_ ?_; rotate_left; (focus ((intro w' hb0 hw'; have q0 : w'.cell? ⟨g, 8, none⟩ = some (.int .u8 (x8.toNat : Int)) := (hw'.cell (p := ⟨g, 8, none⟩) hBW.lt).trans (hBW.at' 8 (by simp)); go_simp) <;> with_reducible rfl)); simp only [Act.put, List.setIfInBounds_toArray, List.set_cons_zero, List.set_cons_succ])
  (refine pl_take (d := 49) (v := ?_) rfl rfl rfl ?_ ?_; rotate_left; (focus ((intro w' hb0 hw'; go_simp) <;> with_reducible rfl)); simp only [Act.put, List.setIfInBounds_toArray, List.set_cons_zero, List.set_cons_succ])
  (refine pl_take (d := 50) (v := ?_) rfl rfl rfl ?_ ?_; rotate_left; (focus ((intro w' hb0 hw'; go_simp) <;> with_reducible rfl)); simp only [Act.put, List.setIfInBounds_toArray, List.set_cons_zero, List.set_cons_succ])
  (refine pl_take (d := 51) (v := ?_) rfl rfl rfl ?_ ?_; rotate_left; (focus ((intro w' hb0 hw'; have q0 : w'.cell? ⟨g, 8, none⟩ = some (.int .u8 (x8.toNat : Int)) := (hw'.cell (p := ⟨g, 8, none⟩) hBW.lt).trans (hBW.at' 8 (by simp)); go_simp) <;> with_reducible rfl)); simp only [Act.put, List.setIfInBounds_toArray, List.set_cons_zero, List.set_cons_succ])
  (refine pl_take (d := 52) (v := ?_) rfl rfl rfl ?_ ?_; rotate_left; (focus ((intro w' hb0 hw'; go_simp) <;> with_reducible rfl)); simp only [Act.put, List.setIfInBounds_toArray, List.set_cons_zero, List.set_cons_succ])
  (refine pl_take (d := 53) (v := ?_) rfl rfl rfl ?_ ?_; rotate_left; (focus ((intro w' hb0 hw'; go_simp) <;> with_reducible rfl)); simp only [Act.put, List.setIfInBounds_toArray, List.set_cons_zero, List.set_cons_succ])
  (refine pl_take (d := 54) (v := ?_) rfl rfl rfl ?_ ?_; rotate_left; (focus ((intro w' hb0 hw'; go_simp) <;> with_reducible rfl)); simp only [Act.put, List.setIfInBounds_toArray, List.set_cons_zero, List.set_cons_succ])
  refine pl_tail ?_
  refine tl_do rfl rfl (fun K hK => ?_)
  have cz := hBW.froz
  have hgl := hBW.lt
  have q0 : W0.cell? ⟨g, 8, none⟩ = some (.int .u8 (x8.toNat : Int)) := hBW.at' 8 (by simp)
  go_simp
  refine hK _ _ ?_
  clear hK cz hgl q0
  have hBF := hBW.set 8 (by simp) (.int .u8 (y8.toNat : Int))
  have hbF := hbW.setCell (p := ⟨g, 8, none⟩) HGE.out (.int .u8 (y8.toNat : Int))
  generalize W0.setCell ⟨g, 8, none⟩ (.int .u8 (y8.toNat : Int)) = WF at *
  (try simp only [Act.put, List.setIfInBounds_toArray, List.set_cons_zero, List.set_cons_succ])
  refine tl_end ?_
  clear s1 s2
  have HBB := Lib.hid hbF; have HB := Lib.hid hBF
  clear hbF hBF hbW hBW
  simp only [List.set_cons_zero, List.set_cons_succ] at HB
  go_wp2_with fail
  refine wp_region_plan none [10] [] (.take 0 (.take 1 (.take 2 (.take 3 (.take 4 (.take 5 (.take 6 (.take 7 (.take 8 (.take 9 (.tail [10]))))))))))) (by kernel_rfl) (by kernel_rfl) (fun _ _ dd _ _ h => by cases dd <;> exact h) ?_
  intro W0 hW0
  have hbW : Below w.heap.size w W0 := by rw [hW0]; exact HBB.out.drew
  have hBW := HB.out.drew
  rw [← hW0] at hBW
  clear hW0 HB HBB
  have s1 : (x12.toNat : Int).tmod 4 = ((x12.toNat % 4 : Nat) : Int) := trem_nat _ 4
  have s2 := HS.out.2.2
  generalize x12.toNat % 4 = z12 at *
  (refine pl_take (d := 55) (v := ?_) rfl rfl rfl ?_ ?_; rotate_left; (focus ((intro w' hb0 hw'; go_simp) <;> with_reducible rfl)); simp only [Act.put, List.setIfInBounds_toArray, List.set_cons_zero, List.set_cons_succ])
  (refine pl_take (d := 56) (v := ?_) rfl rfl rfl ?_ ?_; rotate_left; (focus ((intro w' hb0 hw'; go_simp) <;> with_reducible rfl)); simp only [Act.put, List.setIfInBounds_toArray, List.set_cons_zero, List.set_cons_succ])
  (refine pl_take (d := 57) (v := ?_) rfl rfl rfl ?_ ?_; rotate_left; (focus ((intro w' hb0 hw'; go_simp) <;> with_reducible rfl)); simp only [Act.put, List.setIfInBounds_toArray, List.set_cons_zero, List.set_cons_succ])
  (refine pl_take (d := 58) (v := ?_) rfl rfl rfl ?_ ?_; rotate_left; (focus ((intro w' hb0 hw'; have q0 : w'.cell? ⟨g, 12, none⟩ = some (.int .u8 (x12.toNat : Int)) := (hw'.cell (p := ⟨g, 12, none⟩) hBW.lt).trans (hBW.at' 12 (by simp)); go_simp) <;> with_reducible rfl)); simp only [Act.put, List.setIfInBounds_toArray, List.set_cons_zero, List.set_cons_succ])
  (refine pl_take (d := 59) (v := ?_) rfl rfl rfl ?_ ?_; rotate_left; (focus ((intro w' hb0 hw'; go_simp) <;> with_reducible rfl)); simp only [Act.put, List.setIfInBounds_toArray, List.set_cons_zero, List.set_cons_succ])
  (refine pl_take (d := 60) (v := ?_) rfl rfl rfl ?_ ?_; rotate_left; (focus ((intro w' hb0 hw'; go_simp) <;> with_reducible rfl)); simp only [Act.put, List.setIfInBounds_toArray, List.set_cons_zero, List.set_cons_succ])
  (refine pl_take (d := 61) (v := ?_) rfl rfl rfl ?_ ?_; rotate_left; (focus ((intro w' hb0 hw'; have q0 : w'.cell? ⟨g, 12, none⟩ = some (.int .u8 (x12.toNat : Int)) := (hw'.cell (p := ⟨g, 12, none⟩) hBW.lt).trans (hBW.at' 12 (by simp)); go_simp) <;> with_reducible rfl)); simp only [Act.put, List.setIfInBounds_toArray, List.set_cons_zero, List.set_cons_succ])
  (refine pl_take (d := 62) (v := ?_) rfl rfl rfl ?_ ?_; rotate_left; (focus ((intro w' hb0 hw'; go_simp) <;> with_reducible rfl)); simp only [Act.put, List.setIfInBounds_toArray, List.set_cons_zero, List.set_cons_succ])
  (refine pl_take (d := 63) (v := ?_) rfl rfl rfl ?_ ?_; rotate_left; (focus ((intro w' hb0 hw'; go_simp) <;> with_reducible rfl)); simp only [Act.put, List.setIfInBounds_toArray, List.set_cons_zero, List.set_cons_succ])
  (refine pl_take (d := 64) (v := ?_) rfl rfl rfl ?_ ?_; rotate_left; (focus ((intro w' hb0 hw'; go_simp) <;> with_reducible rfl)); simp only [Act.put, List.setIfInBounds_toArray, List.set_cons_zero, List.set_cons_succ])
  refine pl_tail ?_
  refine tl_do rfl rfl (fun K hK => ?_)
  have cz := hBW.froz
  have hgl := hBW.lt
  have q0 : W0.cell? ⟨g, 12, none⟩ = some (.int .u8 (x12.toNat : Int)) := hBW.at' 12 (by simp)
  go_simp
  refine hK _ _ ?_
  clear hK cz hgl q0
  have hBF := hBW.set 12 (by simp) (.int .u8 (y12.toNat : Int))
  have hbF := hbW.setCell (p := ⟨g, 12, none⟩) HGE.out (.int .u8 (y12.toNat : Int))
  generalize W0.setCell ⟨g, 12, none⟩ (.int .u8 (y12.toNat : Int)) = WF at *
  (try simp only [Act.put, List.setIfInBounds_toArray, List.set_cons_zero, List.set_cons_succ])
  refine tl_end ?_
  clear s1 s2
  have HBB := Lib.hid hbF; have HB := Lib.hid hBF
  clear hbF hBF hbW hBW
  simp only [List.set_cons_zero, List.set_cons_succ] at HB
  go_wp2
  refine bodyPost_ret (v := .slice (some ⟨g, 0, none⟩) 16 cp) (by simp [results, Try.results12, go_sem]) rfl ⟨some ⟨g, 0, none⟩, cp, by simp [clampM], ?_, HBB.out⟩
  rw [HE.out]; exact HB.out.cells
end Go.Proofs.Ytlheepcojeaeaaa
