/-
  Walks: the one that may go; a copied list; one deleted.
-/
import Derived.Test.YtmfglppgpjplfaaWc
import Derived.Test.YtmfglppgpjplfaaDel2
namespace Go.Proofs.Ytmfglppgpjplfaa
open Go.RowKit Go.Proofs.Ytmfglppgpjplfaa.Plan Go.Proofs.Ytmfglppgpjplfaa.Eager
set_option maxHeartbeats 4000000
set_option maxRecDepth 20000
set_option linter.unusedVariables false
set_option linter.unusedSimpArgs false

def ses0 : Ses := ⟨0, 0, ⟨⟨#[]⟩, 0, 0, 0, 0, ⟨#[]⟩⟩, 0, 0, ⟨#[]⟩, ⟨#[]⟩, 0, 0, 0, 0, 0, 0, 0, 0⟩
def useAt (l : List Ses) (b : Nat) : Int := match l[b]? with
  | some s => s.used
  | none => 0
def idleStep (l : List Ses) (busy : List Nat) (best : Option Nat) (k : Nat) : Option Nat := match l[k]? with
  | some s => if mayD busy s then (match best with
    | none => some k
    | some b => if s.used < useAt l b then some k else some b) else best
  | none => best
def idleTo (l : List Ses) (busy : List Nat) : Nat → Option Nat
  | 0 => none
  | k + 1 => idleStep l busy (idleTo l busy k) k
def idleD (l : List Ses) (busy : List Nat) : Option Nat := idleTo l busy l.length
theorem idleTo_lt (l : List Ses) (busy : List Nat) : ∀ (k b : Nat), idleTo l busy k = some b → b < k ∧ b < l.length
  | 0, b, h => by simp [idleTo] at h
  | k + 1, b, h => by
    rw [idleTo] at h
    unfold idleStep at h
    cases hl : l[k]? with
    | none => rw [hl] at h; have := idleTo_lt l busy k b h; omega
    | some s =>
      have hk : k < l.length := (List.getElem?_eq_some_iff.1 hl).1
      rw [hl] at h
      simp only at h
      split at h
      · cases hb : idleTo l busy k with
        | none => rw [hb] at h; simp only [Option.some.injEq] at h; omega
        | some b' =>
          have := idleTo_lt l busy k b' hb
          rw [hb] at h
          simp only at h
          split at h <;> simp only [Option.some.injEq] at h <;> omega
      · have := idleTo_lt l busy k b h; omega
def optI : Option Nat → Int
  | none => -1
  | some b => (b : Int)

theorem idle30 (l : List Ses) (busy : List Nat) (w : World) (oa : Option Addr) (n c : Nat) (ob : Option Addr) (nb cb : Nat) (h : RSes w oa n c l) (h' : RU w ob nb cb busy) :
    Calls Try.prog 30 #[.slice oa n c, .slice ob nb cb] w fun r w' => r = .returned (.int .i64 (optI (idleD l busy))) ∧ Below w.heap.size w w' := by
  obtain rfl : n = l.length := h.rows.len
  have hal : Below w.heap.size w (w.alloc (.cells #[.slice ob nb cb] 23)) := (Below.refl _ _).alloc (Nat.le_refl _) _
  have hX : Blk (w.alloc (.cells #[.slice ob nb cb] 23)) w.heap.size [.slice ob nb cb] := Blk.new' rfl
  have hc := hX.at' 0 (by simp)
  simp only [List.getElem_cons_zero] at hc
  have H := Lib.hid h; have HU := Lib.hid h'; have HB := Lib.hid hal; have HC := Lib.hid hc
  clear h h' hal hX hc
  go_enter Try.func30, Try.ntmps30
  go_wp2
  go_loopw [6, 7, 8, 12] (fun v _ _ u wr => ∃ k : Nat, k ≤ l.length ∧ u = .int .i64 k ∧ v = .int .i64 (optI (idleTo l busy k)) ∧ Hid (wr.cell? ⟨w.heap.size, 0, none⟩ = some (.slice ob nb cb)) ∧ Hid (Below w.heap.size w wr)) (fun _ _ _ u _ => l.length - (intOf u).toNat)
  case atStart => exact ⟨0, by omega, rfl, rfl, HC, HB⟩
  case round =>
    obtain ⟨k, hk, rfl, rfl, hC, hB⟩ := hrel
    by_cases hlt : k < l.length
    · have hi1 : (k : Int) < (l.length : Int) := by omega
      have rk : IntKind.i64.wrap ((k : Int) + 1) = ((k + 1 : Nat) : Int) := by
        have h1 := H.out.le; have h2 := H.out.cap
        simp only [maxLen] at h2
        rw [IntKind.wrap_i64]; omega
      obtain ⟨b1, p1, rfl, hA⟩ := (H.out.rows.below hB.out).ses hlt
      have HST : Hid (idleTo l busy (k + 1) = if mayD busy l[k] then (match idleTo l busy k with | none => some k | some b => if l[k].used < useAt l b then some k else some b) else idleTo l busy k) := by
        show idleStep l busy (idleTo l busy k) k = _
        unfold idleStep
        rw [List.getElem?_eq_getElem hlt]
      have HLT := Lib.hid (idleTo_lt l busy k)
      obtain ⟨s, hs⟩ : ∃ s, l[k] = s := ⟨_, rfl⟩
      rw [hs] at hA HST
      clear hs
      obtain ⟨wA, rfl⟩ : ∃ x, x = wr := ⟨_, rfl⟩
      have hal : Below wA.heap.size wA (wA.alloc (.cells ses0.cells.toArray 30)) := (Below.refl _ _).alloc (Nat.le_refl _) _
      have hZ : Blk (wA.alloc (.cells ses0.cells.toArray 30)) wA.heap.size ses0.cells := Blk.new' rfl
      have HAL := Lib.hid hal; have HZ := Lib.hid hZ
      clear hal hZ
      obtain ⟨best, hbest⟩ : ∃ b, idleTo l busy k = b := ⟨_, rfl⟩
      rw [hbest] at HST HLT ⊢
      clear hbest
      cases hm : mayD busy s
      · have HM := Lib.hid hm
        have HT : Hid (Value.int .i64 (optI best) = .int .i64 (optI (idleTo l busy (k + 1)))) := by show _ = _; rw [HST.out, hm]; rfl
        clear hm HST HLT
        go_wp2_with (refine stop_load (ty := 30) rfl ?_)
        refine ⟨wpList_load_at rfl rfl hA (by rfl) row30 ?_⟩
        clear hA
        go_wp2_with (refine stop_store (ty := 30) rfl ?_)
        refine ⟨wpList_store_blk rfl rfl HZ.out (by rfl) (vs := s.cells) (by rfl) row30 rfl (ses_one s) ?_⟩
        intro W5 hX5 hg5
        have hbk5 := Below.grownB HAL.out hg5 (Nat.le_refl _) HAL.out.size
        have hX := Lib.hid hX5
        replace hC := Lib.hid (cell_later hC.out hbk5); replace hB := Lib.hid (below_step hB.out hbk5)
        clear hX5 hg5 hbk5 HAL HZ
        go_wp2_with fail
        refine wp_region_plan none [] [] (.take 0 (.take 1 (.one 2 (.take 3 (.take 4 (.take 5 (.take 6 (.take 7 (.take 8 (.take 9 (.take 10 (.take 11 (.take 12 (.take 13 (.take 14 (.take 15 (.take 16 .done))))))))))))))))) (by kernel_rfl) (by kernel_rfl) (fun _ _ dd _ _ h => by cases dd <;> exact h) ?_
        intro W0 hW0
        have hX0 : Blk W0 wA.heap.size s.cells := by rw [hW0]; exact hX.out.drew
        have hC0 : W0.cell? ⟨w.heap.size, 0, none⟩ = some (.slice ob nb cb) := by rw [hW0]; exact hC.out
        have hbW : Below w.heap.size w W0 := by rw [hW0]; exact hB.out.drew
        clear hW0
        (refine pl_take (d := 17) (v := ?_) rfl rfl rfl ?_ ?_; rotate_left; (focus ((intro w' hb0 hw'; go_simp) <;> with_reducible rfl)); simp only [Act.put, List.setIfInBounds_toArray, List.set_cons_zero, List.set_cons_succ])
        refine pl_take (d := 18) (v := .agg s.cells.toArray) rfl rfl rfl ?_ ?_
        · intro w' hb0 hw'
          exact run_load_blk rfl (hX0.later hw') (by rfl) row30
        simp only [Act.put, List.setIfInBounds_toArray, List.set_cons_zero, List.set_cons_succ]
        refine pl_one rfl rfl (fun K hK => ?_)
        go_simp
        refine (may47 busy ob nb cb w.heap.size s W0 hC0 (HU.out.below hbW)).mono ?_
        rintro r W1 ⟨rfl, hbk⟩
        rw [HM.out]
        refine hK _ _ (hbk : Rel none W0 W1) ?_
        clear hK
        replace hX0 := hX0.later hbk; replace hC0 := cell_later hC0 hbk; replace hbW := below_step hbW hbk
        clear hbk
        (refine pl_take (d := 20) (v := ?_) rfl rfl rfl ?_ ?_; rotate_left; (focus ((intro w' hb0 hw'; go_simp) <;> with_reducible rfl)); simp only [Act.put, List.setIfInBounds_toArray, List.set_cons_zero, List.set_cons_succ])
        (refine pl_skip (d := 21) rfl rfl rfl ?_; simp only [Act.put, List.setIfInBounds_toArray, List.set_cons_zero, List.set_cons_succ])
        (refine pl_skip (d := 22) rfl rfl rfl ?_; simp only [Act.put, List.setIfInBounds_toArray, List.set_cons_zero, List.set_cons_succ])
        (refine pl_skip (d := 23) rfl rfl rfl ?_; simp only [Act.put, List.setIfInBounds_toArray, List.set_cons_zero, List.set_cons_succ])
        (refine pl_skip (d := 24) rfl rfl rfl ?_; simp only [Act.put, List.setIfInBounds_toArray, List.set_cons_zero, List.set_cons_succ])
        (refine pl_skip (d := 25) rfl rfl rfl ?_; simp only [Act.put, List.setIfInBounds_toArray, List.set_cons_zero, List.set_cons_succ])
        (refine pl_skip (d := 26) rfl rfl rfl ?_; simp only [Act.put, List.setIfInBounds_toArray, List.set_cons_zero, List.set_cons_succ])
        (refine pl_skip (d := 27) rfl rfl rfl ?_; simp only [Act.put, List.setIfInBounds_toArray, List.set_cons_zero, List.set_cons_succ])
        (refine pl_skip (d := 28) rfl rfl rfl ?_; simp only [Act.put, List.setIfInBounds_toArray, List.set_cons_zero, List.set_cons_succ])
        (refine pl_skip (d := 29) rfl rfl rfl ?_; simp only [Act.put, List.setIfInBounds_toArray, List.set_cons_zero, List.set_cons_succ])
        (refine pl_skip (d := 30) rfl rfl rfl ?_; simp only [Act.put, List.setIfInBounds_toArray, List.set_cons_zero, List.set_cons_succ])
        (refine pl_skip (d := 31) rfl rfl rfl ?_; simp only [Act.put, List.setIfInBounds_toArray, List.set_cons_zero, List.set_cons_succ])
        (refine pl_skip (d := 32) rfl rfl rfl ?_; simp only [Act.put, List.setIfInBounds_toArray, List.set_cons_zero, List.set_cons_succ])
        (refine pl_take (d := 33) (v := ?_) rfl rfl rfl ?_ ?_; rotate_left; (focus ((intro w' hb0 hw'; go_simp) <;> with_reducible rfl)); simp only [Act.put, List.setIfInBounds_toArray, List.set_cons_zero, List.set_cons_succ])
        refine pl_end ?_
        clear hX0
        have HC0 := Lib.hid hC0; have HB0 := Lib.hid hbW
        clear hC0 hbW
        go_wp2_with fail
        go_roundw
        case measure => (simp [intOf]) <;> omega
        case rel => exact ⟨k + 1, by omega, rfl, HT.out, HC0, HB0⟩
      · have HM := Lib.hid hm
        cases best with
        | none =>
          have HT : Hid (Value.int .i64 (k : Int) = .int .i64 (optI (idleTo l busy (k + 1)))) := by show _ = _; rw [HST.out, hm]; rfl
          clear hm HST HLT
          simp only [optI]
          go_wp2_with (refine stop_load (ty := 30) rfl ?_)
          refine ⟨wpList_load_at rfl rfl hA (by rfl) row30 ?_⟩
          clear hA
          go_wp2_with (refine stop_store (ty := 30) rfl ?_)
          refine ⟨wpList_store_blk rfl rfl HZ.out (by rfl) (vs := s.cells) (by rfl) row30 rfl (ses_one s) ?_⟩
          intro W5 hX5 hg5
          have hbk5 := Below.grownB HAL.out hg5 (Nat.le_refl _) HAL.out.size
          have hX := Lib.hid hX5
          replace hC := Lib.hid (cell_later hC.out hbk5); replace hB := Lib.hid (below_step hB.out hbk5)
          clear hX5 hg5 hbk5 HAL HZ
          go_wp2_with fail
          refine wp_region_plan none [] [] (.take 0 (.take 1 (.one 2 (.take 3 (.take 4 (.take 5 (.take 6 (.take 7 (.take 8 (.take 9 (.take 10 (.take 11 (.take 12 (.take 13 (.take 14 (.take 15 (.take 16 .done))))))))))))))))) (by kernel_rfl) (by kernel_rfl) (fun _ _ dd _ _ h => by cases dd <;> exact h) ?_
          intro W0 hW0
          have hX0 : Blk W0 wA.heap.size s.cells := by rw [hW0]; exact hX.out.drew
          have hC0 : W0.cell? ⟨w.heap.size, 0, none⟩ = some (.slice ob nb cb) := by rw [hW0]; exact hC.out
          have hbW : Below w.heap.size w W0 := by rw [hW0]; exact hB.out.drew
          clear hW0
          (refine pl_take (d := 17) (v := ?_) rfl rfl rfl ?_ ?_; rotate_left; (focus ((intro w' hb0 hw'; go_simp) <;> with_reducible rfl)); simp only [Act.put, List.setIfInBounds_toArray, List.set_cons_zero, List.set_cons_succ])
          refine pl_take (d := 18) (v := .agg s.cells.toArray) rfl rfl rfl ?_ ?_
          · intro w' hb0 hw'
            exact run_load_blk rfl (hX0.later hw') (by rfl) row30
          simp only [Act.put, List.setIfInBounds_toArray, List.set_cons_zero, List.set_cons_succ]
          refine pl_one rfl rfl (fun K hK => ?_)
          go_simp
          refine (may47 busy ob nb cb w.heap.size s W0 hC0 (HU.out.below hbW)).mono ?_
          rintro r W1 ⟨rfl, hbk⟩
          rw [HM.out]
          refine hK _ _ (hbk : Rel none W0 W1) ?_
          clear hK
          replace hX0 := hX0.later hbk; replace hC0 := cell_later hC0 hbk; replace hbW := below_step hbW hbk
          clear hbk
          (refine pl_take (d := 20) (v := ?_) rfl rfl rfl ?_ ?_; rotate_left; (focus ((intro w' hb0 hw'; go_simp) <;> with_reducible rfl)); simp only [Act.put, List.setIfInBounds_toArray, List.set_cons_zero, List.set_cons_succ])
          (refine pl_take (d := 21) (v := ?_) rfl rfl rfl ?_ ?_; rotate_left; (focus ((intro w' hb0 hw'; go_simp) <;> with_reducible rfl)); simp only [Act.put, List.setIfInBounds_toArray, List.set_cons_zero, List.set_cons_succ])
          (refine pl_take (d := 22) (v := ?_) rfl rfl rfl ?_ ?_; rotate_left; (focus ((intro w' hb0 hw'; go_simp) <;> with_reducible rfl)); simp only [Act.put, List.setIfInBounds_toArray, List.set_cons_zero, List.set_cons_succ])
          (refine pl_take (d := 23) (v := ?_) rfl rfl rfl ?_ ?_; rotate_left; (focus ((intro w' hb0 hw'; go_simp) <;> with_reducible rfl)); simp only [Act.put, List.setIfInBounds_toArray, List.set_cons_zero, List.set_cons_succ])
          (refine pl_skip (d := 24) rfl rfl rfl ?_; simp only [Act.put, List.setIfInBounds_toArray, List.set_cons_zero, List.set_cons_succ])
          (refine pl_skip (d := 25) rfl rfl rfl ?_; simp only [Act.put, List.setIfInBounds_toArray, List.set_cons_zero, List.set_cons_succ])
          (refine pl_skip (d := 26) rfl rfl rfl ?_; simp only [Act.put, List.setIfInBounds_toArray, List.set_cons_zero, List.set_cons_succ])
          (refine pl_skip (d := 27) rfl rfl rfl ?_; simp only [Act.put, List.setIfInBounds_toArray, List.set_cons_zero, List.set_cons_succ])
          (refine pl_skip (d := 28) rfl rfl rfl ?_; simp only [Act.put, List.setIfInBounds_toArray, List.set_cons_zero, List.set_cons_succ])
          (refine pl_skip (d := 29) rfl rfl rfl ?_; simp only [Act.put, List.setIfInBounds_toArray, List.set_cons_zero, List.set_cons_succ])
          (refine pl_skip (d := 30) rfl rfl rfl ?_; simp only [Act.put, List.setIfInBounds_toArray, List.set_cons_zero, List.set_cons_succ])
          (refine pl_skip (d := 31) rfl rfl rfl ?_; simp only [Act.put, List.setIfInBounds_toArray, List.set_cons_zero, List.set_cons_succ])
          (refine pl_take (d := 32) (v := ?_) rfl rfl rfl ?_ ?_; rotate_left; (focus ((intro w' hb0 hw'; go_simp) <;> with_reducible rfl)); simp only [Act.put, List.setIfInBounds_toArray, List.set_cons_zero, List.set_cons_succ])
          (refine pl_take (d := 33) (v := ?_) rfl rfl rfl ?_ ?_; rotate_left; (focus ((intro w' hb0 hw'; go_simp) <;> with_reducible rfl)); simp only [Act.put, List.setIfInBounds_toArray, List.set_cons_zero, List.set_cons_succ])
          refine pl_end ?_
          clear hX0
          have HC0 := Lib.hid hC0; have HB0 := Lib.hid hbW
          clear hC0 hbW
          go_wp2_with fail
          go_roundw
          case measure => (simp [intOf]) <;> omega
          case rel => exact ⟨k + 1, by omega, rfl, HT.out, HC0, HB0⟩
        | some b =>
          replace HST : Hid (idleTo l busy (k + 1) = if mayD busy s then (if s.used < useAt l b then some k else some b) else some b) := HST.out
          have hbl := HLT.out b rfl
          have hb2 : (b : Int) < (l.length : Int) := by omega
          have hb3 : ¬ (b : Int) < 0 := by omega
          obtain ⟨b2, p2, e2, hAB⟩ := H.out.rows.ses hbl.2
          cases e2
          have hu : useAt l b = l[b].used := by unfold useAt; rw [List.getElem?_eq_getElem hbl.2]
          rw [hu] at HST
          obtain ⟨t, ht⟩ : ∃ t, l[b] = t := ⟨_, rfl⟩
          rw [ht] at hAB HST
          have HAB := Lib.hid hAB
          clear hu ht hAB hbl
          simp only [optI]
          by_cases hus : s.used < t.used
          · have HT : Hid (Value.int .i64 (k : Int) = .int .i64 (optI (idleTo l busy (k + 1)))) := by
              show _ = _
              rw [HST.out, hm]; simp only [if_true, if_pos hus]; rfl
            clear hm HST HLT
            go_wp2_with (refine stop_load (ty := 30) rfl ?_)
            refine ⟨wpList_load_at rfl rfl hA (by rfl) row30 ?_⟩
            clear hA
            go_wp2_with (refine stop_store (ty := 30) rfl ?_)
            refine ⟨wpList_store_blk rfl rfl HZ.out (by rfl) (vs := s.cells) (by rfl) row30 rfl (ses_one s) ?_⟩
            intro W5 hX5 hg5
            have hbk5 := Below.grownB HAL.out hg5 (Nat.le_refl _) HAL.out.size
            have hX := Lib.hid hX5
            replace hC := Lib.hid (cell_later hC.out hbk5); replace hB := Lib.hid (below_step hB.out hbk5)
            clear hX5 hg5 hbk5 HAL HZ
            go_wp2_with fail
            refine wp_region_plan none [] [] (.take 0 (.take 1 (.one 2 (.take 3 (.take 4 (.take 5 (.take 6 (.take 7 (.take 8 (.take 9 (.take 10 (.take 11 (.take 12 (.take 13 (.take 14 (.take 15 (.take 16 .done))))))))))))))))) (by kernel_rfl) (by kernel_rfl) (fun _ _ dd _ _ h => by cases dd <;> exact h) ?_
            intro W0 hW0
            have hX0 : Blk W0 wA.heap.size s.cells := by rw [hW0]; exact hX.out.drew
            have hC0 : W0.cell? ⟨w.heap.size, 0, none⟩ = some (.slice ob nb cb) := by rw [hW0]; exact hC.out
            have hbW : Below w.heap.size w W0 := by rw [hW0]; exact hB.out.drew
            have hA0 := HAB.out.later hbW
            clear hW0
            (refine pl_take (d := 17) (v := ?_) rfl rfl rfl ?_ ?_; rotate_left; (focus ((intro w' hb0 hw'; go_simp) <;> with_reducible rfl)); simp only [Act.put, List.setIfInBounds_toArray, List.set_cons_zero, List.set_cons_succ])
            refine pl_take (d := 18) (v := .agg s.cells.toArray) rfl rfl rfl ?_ ?_
            · intro w' hb0 hw'
              exact run_load_blk rfl (hX0.later hw') (by rfl) row30
            simp only [Act.put, List.setIfInBounds_toArray, List.set_cons_zero, List.set_cons_succ]
            refine pl_one rfl rfl (fun K hK => ?_)
            go_simp
            refine (may47 busy ob nb cb w.heap.size s W0 hC0 (HU.out.below hbW)).mono ?_
            rintro r W1 ⟨rfl, hbk⟩
            rw [HM.out]
            refine hK _ _ (hbk : Rel none W0 W1) ?_
            clear hK
            replace hX0 := hX0.later hbk; replace hC0 := cell_later hC0 hbk; replace hbW := below_step hbW hbk
            replace hA0 := hA0.later hbk
            clear hbk
            (refine pl_take (d := 20) (v := ?_) rfl rfl rfl ?_ ?_; rotate_left; (focus ((intro w' hb0 hw'; go_simp) <;> with_reducible rfl)); simp only [Act.put, List.setIfInBounds_toArray, List.set_cons_zero, List.set_cons_succ])
            (refine pl_take (d := 21) (v := ?_) rfl rfl rfl ?_ ?_; rotate_left; (focus ((intro w' hb0 hw'; go_simp) <;> with_reducible rfl)); simp only [Act.put, List.setIfInBounds_toArray, List.set_cons_zero, List.set_cons_succ])
            (refine pl_take (d := 22) (v := ?_) rfl rfl rfl ?_ ?_; rotate_left; (focus ((intro w' hb0 hw'; go_simp) <;> with_reducible rfl)); simp only [Act.put, List.setIfInBounds_toArray, List.set_cons_zero, List.set_cons_succ])
            (refine pl_take (d := 23) (v := ?_) rfl rfl rfl ?_ ?_; rotate_left; (focus ((intro w' hb0 hw'; go_simp) <;> with_reducible rfl)); simp only [Act.put, List.setIfInBounds_toArray, List.set_cons_zero, List.set_cons_succ])
            (refine pl_take (d := 24) (v := ?_) rfl rfl rfl ?_ ?_; rotate_left; (focus ((intro w' hb0 hw'; go_simp) <;> with_reducible rfl)); simp only [Act.put, List.setIfInBounds_toArray, List.set_cons_zero, List.set_cons_succ])
            (refine pl_take (d := 25) (v := ?_) rfl rfl rfl ?_ ?_; rotate_left; (focus ((intro w' hb0 hw'; have c19 : w'.cell? ⟨wA.heap.size, 19, none⟩ = some (.int .i64 s.used) := (hX0.later hw').at' 19 (by simp [Ses.cells]); go_simp) <;> with_reducible rfl)); simp only [Act.put, List.setIfInBounds_toArray, List.set_cons_zero, List.set_cons_succ])
            (refine pl_take (d := 26) (v := ?_) rfl rfl rfl ?_ ?_; rotate_left; (focus ((intro w' hb0 hw'; go_simp) <;> with_reducible rfl)); simp only [Act.put, List.setIfInBounds_toArray, List.set_cons_zero, List.set_cons_succ])
            (refine pl_take (d := 27) (v := ?_) rfl rfl rfl ?_ ?_; rotate_left; (focus ((intro w' hb0 hw'; go_simp) <;> with_reducible rfl)); simp only [Act.put, List.setIfInBounds_toArray, List.set_cons_zero, List.set_cons_succ])
            (refine pl_take (d := 28) (v := ?_) rfl rfl rfl ?_ ?_; rotate_left; (focus ((intro w' hb0 hw'; go_simp) <;> with_reducible rfl)); simp only [Act.put, List.setIfInBounds_toArray, List.set_cons_zero, List.set_cons_succ])
            (refine pl_take (d := 29) (v := ?_) rfl rfl rfl ?_ ?_; rotate_left; (focus ((intro w' hb0 hw'; go_simp) <;> with_reducible rfl)); simp only [Act.put, List.setIfInBounds_toArray, List.set_cons_zero, List.set_cons_succ])
            (refine pl_take (d := 30) (v := ?_) rfl rfl rfl ?_ ?_; rotate_left; (focus ((intro w' hb0 hw'; have c19 : w'.cell? ⟨b1, p1 + b * 20 + 19, none⟩ = some (.int .i64 t.used) := (hA0.later hw').get 19 (by simp [Ses.cells]); go_simp) <;> with_reducible rfl)); simp only [Act.put, List.setIfInBounds_toArray, List.set_cons_zero, List.set_cons_succ])
            refine pl_take (d := 31) (v := .bool true) rfl rfl rfl ?_ ?_
            · intro w' hb0 hw'
              go_simp
            simp only [Act.put, List.setIfInBounds_toArray, List.set_cons_zero, List.set_cons_succ]
            (refine pl_take (d := 32) (v := ?_) rfl rfl rfl ?_ ?_; rotate_left; (focus ((intro w' hb0 hw'; go_simp) <;> with_reducible rfl)); simp only [Act.put, List.setIfInBounds_toArray, List.set_cons_zero, List.set_cons_succ])
            (refine pl_take (d := 33) (v := ?_) rfl rfl rfl ?_ ?_; rotate_left; (focus ((intro w' hb0 hw'; go_simp) <;> with_reducible rfl)); simp only [Act.put, List.setIfInBounds_toArray, List.set_cons_zero, List.set_cons_succ])
            refine pl_end ?_
            clear hX0 hA0
            have HC0 := Lib.hid hC0; have HB0 := Lib.hid hbW
            clear hC0 hbW
            go_wp2_with fail
            go_roundw
            case measure => (simp [intOf]) <;> omega
            case rel => exact ⟨k + 1, by omega, rfl, HT.out, HC0, HB0⟩
          · have HT : Hid (Value.int .i64 (b : Int) = .int .i64 (optI (idleTo l busy (k + 1)))) := by
              show _ = _
              rw [HST.out, hm]; simp only [if_true, if_neg hus]; rfl
            clear hm HST HLT
            go_wp2_with (refine stop_load (ty := 30) rfl ?_)
            refine ⟨wpList_load_at rfl rfl hA (by rfl) row30 ?_⟩
            clear hA
            go_wp2_with (refine stop_store (ty := 30) rfl ?_)
            refine ⟨wpList_store_blk rfl rfl HZ.out (by rfl) (vs := s.cells) (by rfl) row30 rfl (ses_one s) ?_⟩
            intro W5 hX5 hg5
            have hbk5 := Below.grownB HAL.out hg5 (Nat.le_refl _) HAL.out.size
            have hX := Lib.hid hX5
            replace hC := Lib.hid (cell_later hC.out hbk5); replace hB := Lib.hid (below_step hB.out hbk5)
            clear hX5 hg5 hbk5 HAL HZ
            go_wp2_with fail
            refine wp_region_plan none [] [] (.take 0 (.take 1 (.one 2 (.take 3 (.take 4 (.take 5 (.take 6 (.take 7 (.take 8 (.take 9 (.take 10 (.take 11 (.take 12 (.take 13 (.take 14 (.take 15 (.take 16 .done))))))))))))))))) (by kernel_rfl) (by kernel_rfl) (fun _ _ dd _ _ h => by cases dd <;> exact h) ?_
            intro W0 hW0
            have hX0 : Blk W0 wA.heap.size s.cells := by rw [hW0]; exact hX.out.drew
            have hC0 : W0.cell? ⟨w.heap.size, 0, none⟩ = some (.slice ob nb cb) := by rw [hW0]; exact hC.out
            have hbW : Below w.heap.size w W0 := by rw [hW0]; exact hB.out.drew
            have hA0 := HAB.out.later hbW
            clear hW0
            (refine pl_take (d := 17) (v := ?_) rfl rfl rfl ?_ ?_; rotate_left; (focus ((intro w' hb0 hw'; go_simp) <;> with_reducible rfl)); simp only [Act.put, List.setIfInBounds_toArray, List.set_cons_zero, List.set_cons_succ])
            refine pl_take (d := 18) (v := .agg s.cells.toArray) rfl rfl rfl ?_ ?_
            · intro w' hb0 hw'
              exact run_load_blk rfl (hX0.later hw') (by rfl) row30
            simp only [Act.put, List.setIfInBounds_toArray, List.set_cons_zero, List.set_cons_succ]
            refine pl_one rfl rfl (fun K hK => ?_)
            go_simp
            refine (may47 busy ob nb cb w.heap.size s W0 hC0 (HU.out.below hbW)).mono ?_
            rintro r W1 ⟨rfl, hbk⟩
            rw [HM.out]
            refine hK _ _ (hbk : Rel none W0 W1) ?_
            clear hK
            replace hX0 := hX0.later hbk; replace hC0 := cell_later hC0 hbk; replace hbW := below_step hbW hbk
            replace hA0 := hA0.later hbk
            clear hbk
            (refine pl_take (d := 20) (v := ?_) rfl rfl rfl ?_ ?_; rotate_left; (focus ((intro w' hb0 hw'; go_simp) <;> with_reducible rfl)); simp only [Act.put, List.setIfInBounds_toArray, List.set_cons_zero, List.set_cons_succ])
            (refine pl_take (d := 21) (v := ?_) rfl rfl rfl ?_ ?_; rotate_left; (focus ((intro w' hb0 hw'; go_simp) <;> with_reducible rfl)); simp only [Act.put, List.setIfInBounds_toArray, List.set_cons_zero, List.set_cons_succ])
            (refine pl_take (d := 22) (v := ?_) rfl rfl rfl ?_ ?_; rotate_left; (focus ((intro w' hb0 hw'; go_simp) <;> with_reducible rfl)); simp only [Act.put, List.setIfInBounds_toArray, List.set_cons_zero, List.set_cons_succ])
            (refine pl_take (d := 23) (v := ?_) rfl rfl rfl ?_ ?_; rotate_left; (focus ((intro w' hb0 hw'; go_simp) <;> with_reducible rfl)); simp only [Act.put, List.setIfInBounds_toArray, List.set_cons_zero, List.set_cons_succ])
            (refine pl_take (d := 24) (v := ?_) rfl rfl rfl ?_ ?_; rotate_left; (focus ((intro w' hb0 hw'; go_simp) <;> with_reducible rfl)); simp only [Act.put, List.setIfInBounds_toArray, List.set_cons_zero, List.set_cons_succ])
            (refine pl_take (d := 25) (v := ?_) rfl rfl rfl ?_ ?_; rotate_left; (focus ((intro w' hb0 hw'; have c19 : w'.cell? ⟨wA.heap.size, 19, none⟩ = some (.int .i64 s.used) := (hX0.later hw').at' 19 (by simp [Ses.cells]); go_simp) <;> with_reducible rfl)); simp only [Act.put, List.setIfInBounds_toArray, List.set_cons_zero, List.set_cons_succ])
            (refine pl_take (d := 26) (v := ?_) rfl rfl rfl ?_ ?_; rotate_left; (focus ((intro w' hb0 hw'; go_simp) <;> with_reducible rfl)); simp only [Act.put, List.setIfInBounds_toArray, List.set_cons_zero, List.set_cons_succ])
            (refine pl_take (d := 27) (v := ?_) rfl rfl rfl ?_ ?_; rotate_left; (focus ((intro w' hb0 hw'; go_simp) <;> with_reducible rfl)); simp only [Act.put, List.setIfInBounds_toArray, List.set_cons_zero, List.set_cons_succ])
            (refine pl_take (d := 28) (v := ?_) rfl rfl rfl ?_ ?_; rotate_left; (focus ((intro w' hb0 hw'; go_simp) <;> with_reducible rfl)); simp only [Act.put, List.setIfInBounds_toArray, List.set_cons_zero, List.set_cons_succ])
            (refine pl_take (d := 29) (v := ?_) rfl rfl rfl ?_ ?_; rotate_left; (focus ((intro w' hb0 hw'; go_simp) <;> with_reducible rfl)); simp only [Act.put, List.setIfInBounds_toArray, List.set_cons_zero, List.set_cons_succ])
            (refine pl_take (d := 30) (v := ?_) rfl rfl rfl ?_ ?_; rotate_left; (focus ((intro w' hb0 hw'; have c19 : w'.cell? ⟨b1, p1 + b * 20 + 19, none⟩ = some (.int .i64 t.used) := (hA0.later hw').get 19 (by simp [Ses.cells]); go_simp) <;> with_reducible rfl)); simp only [Act.put, List.setIfInBounds_toArray, List.set_cons_zero, List.set_cons_succ])
            refine pl_take (d := 31) (v := .bool false) rfl rfl rfl ?_ ?_
            · intro w' hb0 hw'
              go_simp
            simp only [Act.put, List.setIfInBounds_toArray, List.set_cons_zero, List.set_cons_succ]
            (refine pl_take (d := 32) (v := ?_) rfl rfl rfl ?_ ?_; rotate_left; (focus ((intro w' hb0 hw'; go_simp) <;> with_reducible rfl)); simp only [Act.put, List.setIfInBounds_toArray, List.set_cons_zero, List.set_cons_succ])
            (refine pl_take (d := 33) (v := ?_) rfl rfl rfl ?_ ?_; rotate_left; (focus ((intro w' hb0 hw'; go_simp) <;> with_reducible rfl)); simp only [Act.put, List.setIfInBounds_toArray, List.set_cons_zero, List.set_cons_succ])
            refine pl_end ?_
            clear hX0 hA0
            have HC0 := Lib.hid hC0; have HB0 := Lib.hid hbW
            clear hC0 hbW
            go_wp2_with fail
            go_roundw
            case measure => (simp [intOf]) <;> omega
            case rel => exact ⟨k + 1, by omega, rfl, HT.out, HC0, HB0⟩
    · obtain rfl : k = l.length := by omega
      have hb1 := hB.out
      go_wp2
      refine bodyPost_ret (v := .int .i64 (optI (idleD l busy))) (by simp [results, Try.results30, go_sem, idleD]) rfl ⟨rfl, hb1⟩

theorem delete31 (w : World) (g n cap i j : Nat) (cs : List Value) (hB : Blk w g cs) (hl : cs.length = n * 20) (hn : n ≤ cap) (hc : cap ≤ maxLen) (hi : i < n) (hj : j = i + 1) (h1 : ∀ u ∈ cs, u.oneCell' = true) :
    Calls Try.prog 31 #[.slice (some ⟨g, 0, none⟩) n cap, .int .i64 i, .int .i64 j] w fun r w' => r = .returned (.slice (some ⟨g, 0, none⟩) (n - 1) cap) ∧ (∃ zs, Blk w' g (cs.take (i * 20) ++ (cs.drop (j * 20) ++ zs))) ∧ w.grownBy w' (some g) := by
  have mixed : Try.prog.follows Departure.mixedOrders = true := by kernel_rfl
  have hm : cap ≤ 9223372036854775807 := by simpa [maxLen] using hc
  have hic : i ≤ cap := by omega
  have hjc : j ≤ cap := by omega
  have hjn : j ≤ n := by omega
  have hne : i ≠ j := by omega
  have hlt : i < j := by omega
  obtain ⟨news, hnews⟩ : ∃ news, news = cs.drop (j * 20) := ⟨_, rfl⟩
  have hlen : news.length = (n - j) * 20 := by rw [hnews, List.length_drop, hl]; omega
  obtain ⟨A, hA, hsrc⟩ : ∃ A : Addr, (if cap = j then some (⟨g, 0, none⟩ : Addr) else some ⟨g, j * 20, none⟩) = some A ∧ Hid (∀ t u, news[t]? = some u → w.drew.cell? (A.add t) = some u) := by
    by_cases h : cap = j
    · refine ⟨⟨g, 0, none⟩, by simp [h], fun t u hu => ?_⟩
      have h0 : news.length = 0 := by rw [hlen]; omega
      rw [List.length_eq_zero_iff.1 h0] at hu
      simp at hu
    · refine ⟨⟨g, j * 20, none⟩, by simp [h], fun t u hu => ?_⟩
      have ht : t < news.length := (List.getElem?_eq_some_iff.1 hu).1
      rw [hnews, List.getElem?_drop] at hu
      rw [Addr.add_lit]
      exact (hB.drew.cell (j * 20 + t) (by omega)).trans hu
  have s1 : Hid (news.length = (n - j) * 20) := hlen
  have s2 : Hid (∀ u ∈ news, u.oneCell' = true) := fun u hu => h1 u (by rw [hnews] at hu; exact List.mem_of_mem_drop hu)
  have s3 : Hid (∀ t, t < news.length → (w.drew.cell? ⟨g, 0 + i * 20 + t, none⟩).isSome = true ∧ w.drew.frozen? ⟨g, 0 + i * 20 + t, none⟩ = false) := by
    intro t ht
    rw [hlen] at ht
    rw [Nat.zero_add]
    exact ⟨by rw [hB.drew.at' (i * 20 + t) (by omega)]; rfl, hB.drew.froz _⟩
  obtain ⟨W1, hW1⟩ : ∃ W1, W1 = w.drew.setCells g (0 + i * 20) news := ⟨_, rfl⟩
  have hB1 : Blk W1 g (cs.take (i * 20) ++ news ++ cs.drop (i * 20 + news.length)) := by
    rw [hW1, Nat.zero_add]; exact hB.drew.setRange (by omega)
  have hl1 : (cs.take (i * 20) ++ news ++ cs.drop (i * 20 + news.length)).length = n * 20 := by simp; omega
  have hg1 : w.grownBy W1 (some g) := by
    rw [hW1]
    have h := setCells_grown g news (0 + i * 20) w.drew
    exact ⟨h.os, h.tape, h.output, h.size, h.block⟩
  obtain ⟨vs, hvl, hcl⟩ := run_clear_blk (P := Try.prog) (w := W1) 22 30 (z := .agg #[.int .u64 0, .int .u64 0, .string ⟨#[]⟩, .int .u64 0, .int .i64 0, .int .i64 0, .int .i64 0, .string ⟨#[]⟩, .int .i64 0, .int .i64 0, .string ⟨#[]⟩, .string ⟨#[]⟩, .int .i64 0, .int .i64 0, .int .i64 0, .int .i64 0, .int .i64 0, .int .u64 0, .int .u64 0, .int .i64 0]) rfl (fun w => by kernel_rfl) (by simp [Value.cells, Value.oneCell']) hB1 ((i + (n - j)) * 20) 20 (n - (i + (n - j))) (cap - (i + (n - j))) rfl (by omega) (by omega) (by rw [hl1]; omega)
  have hB2 := hB1.setRange (vs := vs) (o := (i + (n - j)) * 20) (by rw [hl1, hvl]; omega)
  have hg2 := setCells_grown g vs ((i + (n - j)) * 20) W1
  have fin : Hid ((∃ zs, Blk (W1.setCells g ((i + (n - j)) * 20) vs) g (cs.take (i * 20) ++ (news ++ zs))) ∧ w.grownBy (W1.setCells g ((i + (n - j)) * 20) vs) (some g)) := by
    refine ⟨⟨vs, ?_⟩, ?_⟩
    · refine hB2.cast ?_
      have x1 : (cs.take (i * 20) ++ news ++ cs.drop (i * 20 + news.length)).take ((i + (n - j)) * 20) = cs.take (i * 20) ++ news := List.take_left' (by simp; omega)
      have x2 : (cs.take (i * 20) ++ news ++ cs.drop (i * 20 + news.length)).drop ((i + (n - j)) * 20 + vs.length) = [] := List.drop_of_length_le (by rw [hl1, hvl]; omega)
      rw [x1, x2, List.append_nil, List.append_assoc]
    · exact grown_trans hg1 hg2
  obtain ⟨W2, hW2⟩ : ∃ W2, W1.setCells g ((i + (n - j)) * 20) vs = W2 := ⟨_, rfl⟩
  rw [hW2] at fin hcl
  rw [hnews] at fin
  have hW : Hid (W1 = w.drew.setCells g (0 + i * 20) news) := hW1
  have e0 : i + (n - j) = n - 1 := by omega
  have E0 := Lib.hid e0
  clear hB hB1 hg1 hg2 hB2 hl1 hW1 hW2 hnews hlen hl h1 hvl e0 hj
  go_enter Try.func31, Try.ntmps31
  go_wp2_with fail
  go_region_law_o (refine step_append_room rfl (.tmp 22) (.tmp 25) 22 rfl 30 _ 20 rfl rfl rfl g 0 i cap (by simp [Act.eval, Act.put]) A (n - j) (cap - j) news (by simp [Act.eval, Act.put]) s1.out hsrc.out s2.out (by omega) s3.out ?_; rw [← hW.out])
  go_wp2
  refine bodyPost_ret (v := .slice (some ⟨g, 0, none⟩) (i + (n - j)) cap) (by simp [results, Try.results31, go_sem]) rfl ⟨by rw [E0.out], fin.out.1, fin.out.2⟩

theorem eq_nil22 (w : World) (a : Option Addr) (n c : Nat) : (binOp .eql 22 (.slice a n c) (.slice none 0 0)).run Try.prog w = .ok (.bool a.isNone) w := by
  have h : Try.prog.underlying 22 = some (.slice 30) := by kernel_rfl
  first | exact Lib.run_eql_slice_nil w 22 30 a n c 0 0 h | exact Go.run_eql_slice_nil w 22 30 a n c h
def CloneOk (w : World) (l : List Ses) (e : Ending) (w' : World) : Prop :=
  ∃ v, e = .returned v ∧ Own w' w.heap.size 30 20 v l.length (l.flatMap Ses.cells) ∧ Below w.heap.size w w'
theorem clone28 (l : List Ses) (w : World) (oa : Option Addr) (n c : Nat) (h : RSes w oa n c l) (hl : l.length ≤ 1000) :
    Calls Try.prog 28 #[.slice oa n c] w (CloneOk w l) := by
  obtain rfl : n = l.length := h.rows.len
  have H := Lib.hid h; have HL := Lib.hid hl; clear h hl
  cases oa with
  | none =>
    have hnil : l = [] := by
      have h1 := H.out.rows.cells.none_nil
      have h2 := ses_len l
      rw [h1] at h2
      exact List.eq_nil_of_length_eq_zero (by simp at h2; omega)
    subst hnil
    have q22 := fun W => eq_nil22 W none 0 c
    simp only [Option.isNone_none] at q22
    go_enter Try.func28, Try.ntmps28
    go_wp2
    refine bodyPost_ret (v := .slice none 0 0) (by simp [results, Try.results28, go_sem]) rfl ⟨_, rfl, Own.nil _ _ _ _, Below.refl _ _⟩
  | some a =>
    have hal : Below w.heap.size w (w.alloc (.cells ([] : List Value).toArray 30)) := (Below.refl _ _).alloc (Nat.le_refl _) _
    have HO : Hid (Own (w.alloc (.cells ([] : List Value).toArray 30)) w.heap.size 30 20 (.slice (some ⟨w.heap.size, 0, none⟩) 0 0) 0 []) := Own.lit w [] 30 20 0 (by simp) rfl _ (Nat.le_refl _)
    have HAL := Lib.hid hal
    have HH2 := Lib.hid (H.out.below hal)
    clear hal
    have q22 := fun W => eq_nil22 W (some a) l.length c
    simp only [Option.isNone_some] at q22
    go_enter Try.func28, Try.ntmps28
    go_wp2_with (refine stop_append rfl ?_)
    have hl3 := HL.out
    refine ⟨wpList_app el22 rfl (by rfl) (by rfl) HO.out (by rfl) (m := l.length) (by rw [ses_len]) HH2.out.rows.cells (ses_oneCells l) (by simp [maxLen]; omega) (by omega) HAL.out.size ?_⟩
    intro v5 W5 hO5 hg5
    have hb5 := HO.out.below hg5 HAL.out (Nat.le_refl _) HAL.out.size
    have hO6 : Own W5 w.heap.size 30 20 v5 l.length (l.flatMap Ses.cells) := by simpa using hO5
    have HO5 := Lib.hid hO6; have HB5 := Lib.hid hb5
    clear hO5 hO6 hg5 hb5 HO HAL HH2 hl3
    go_wp2
    refine bodyPost_ret (v := v5) (by simp [results, Try.results28, go_sem]) rfl ⟨_, rfl, HO5.out, HB5.out⟩
end Go.Proofs.Ytmfglppgpjplfaa
