/-
  Walk: the document's list with one more.
-/
import Derived.Test.YtmfglppgpjplfaaWl
import Derived.Test.YtmfglppgpjplfaaWi
namespace Go.Proofs.Ytmfglppgpjplfaa
open Go.RowKit Go.Proofs.Ytmfglppgpjplfaa.Plan Go.Proofs.Ytmfglppgpjplfaa.Eager
set_option maxHeartbeats 4000000
set_option maxRecDepth 20000
set_option linter.unusedVariables false
set_option linter.unusedSimpArgs false

def RefAddOk (w : World) (r : List Ses × Int) (e : Ending) (w' : World) : Prop :=
  ∃ v, e = .returned (.tuple #[v, .int .i64 r.2]) ∧ (∃ oa c, v = .slice oa r.1.length c ∧ RSes w' oa r.1.length c r.1) ∧ Below w.heap.size w w'

theorem refAdd11 (l : List Ses) (busy : List Nat) (s : Ses) (w : World) (oa : Option Addr) (n c : Nat) (ob : Option Addr) (nb cb : Nat) (h : RSes w oa n c l) (h' : RU w ob nb cb busy) (hl : l.length ≤ 900) :
    Calls Try.prog 11 #[.slice oa n c, .slice ob nb cb, .agg s.cells.toArray] w (RefAddOk w (addD l busy s)) := by
  obtain rfl : n = l.length := h.rows.len
  have hal : Below w.heap.size w (w.alloc (.cells s.cells.toArray 30)) := (Below.refl _ _).alloc (Nat.le_refl _) _
  have HX : Hid (Blk (w.alloc (.cells s.cells.toArray 30)) w.heap.size s.cells) := Blk.new' rfl
  have H := Lib.hid (h.below hal); have HU := Lib.hid (h'.below hal); have HB := Lib.hid hal; have HL := Lib.hid hl
  clear h h' hal hl
  have HA : Hid (addD l busy s = if againD l s then (l, (26 : Int)) else if 24 ≤ l.length then (match idleD l busy with
    | none => (l, (27 : Int))
    | some i => (l.eraseIdx i ++ [s], (0 : Int))) else (l ++ [s], (0 : Int))) := rfl
  go_enter Try.func11, Try.ntmps11
  go_wp2_with (refine stop_load (ty := 30) rfl ?_)
  refine ⟨wpList_load_blk rfl rfl HX.out (by rfl) row30 ?_⟩
  go_wp2_with fail
  refine (refAgain32 l s _ oa _ c H.out).mono ?_
  rintro r w2 ⟨rfl, hb⟩
  replace HX := Lib.hid (HX.out.later hb); replace H := Lib.hid (H.out.below hb); replace HU := Lib.hid (HU.out.below hb); replace HB := Lib.hid (below_step HB.out hb)
  clear hb
  cases hag : againD l s
  case true =>
    have HR : Hid (addD l busy s = (l, 26)) := by show _ = _; rw [HA.out, hag]; rfl
    clear HA hag
    go_wp2
    refine bodyPost_ret (v := .tuple #[.slice oa l.length c, .int .i64 26]) (by simp [results, Try.results11, go_sem]) rfl ?_
    rw [HR.out]
    exact ⟨_, rfl, ⟨_, _, rfl, H.out⟩, HB.out⟩
  case false =>
  by_cases h24 : 24 ≤ l.length
  rotate_left
  · have h24' : (l.length : Int) < 24 := by omega
    have HR : Hid (addD l busy s = (l ++ [s], 0)) := by show _ = _; rw [HA.out, hag]; simp only [Bool.false_eq_true, if_false, if_neg h24]
    clear HA hag h24 HU
    go_wp2_with fail
    refine wp_region_plan (some w2.heap.size) [] [] (.take 1 (.take 3 (.two 0 (.two 2 (.one 4 (.one 5 (.take 6 (.take 7 .done)))) 4 (.one 2 (.one 5 (.take 6 (.take 7 .done))))) 4 (.one 0 (.one 2 (.one 5 (.take 6 (.take 7 .done)))))))) (by kernel_rfl) (by kernel_rfl) (fun _ _ dd _ _ h => by cases dd <;> exact h) ?_
    intro W0 hW0
    have hbW : Below w2.heap.size w2 W0 := by rw [hW0]; exact below_drew w2
    have hn : w2.heap.size ≤ W0.heap.size := hbW.size
    clear hW0
    have HL2 := H
    generalize W0 = Wz at *
    (refine pl_take (d := 18) (v := ?_) rfl rfl rfl ?_ ?_; rotate_left; (focus ((intro w' hb0 hw'; go_simp) <;> with_reducible rfl)); simp only [Act.put, List.setIfInBounds_toArray, List.set_cons_zero, List.set_cons_succ])
    refine pl_take (d := 20) (v := .agg s.cells.toArray) rfl rfl rfl ?_ ?_
    · intro w' hb0 hw'
      exact run_load_blk rfl (HX.out.later (hbW.trans hb0)) (by rfl) row30
    simp only [Act.put, List.setIfInBounds_toArray, List.set_cons_zero, List.set_cons_succ]
    refine pl_two rfl rfl rfl rfl (fun K hK => ?_) (fun K hK => ?_)
    · go_simp
      have hbk : Below Wz.heap.size Wz (Wz.alloc (.cells ([] : List Value).toArray 30)) := (Below.refl _ _).alloc (Nat.le_refl _) _
      refine hK _ _ (hbk.mono hn : Below w2.heap.size Wz (Wz.alloc (.cells ([] : List Value).toArray 30))) ?_
      clear hK
      have hE0 : Own (Wz.alloc (.cells ([] : List Value).toArray 30)) w2.heap.size 30 20 (.slice (some ⟨Wz.heap.size, 0, none⟩) 0 0) 0 [] := Own.lit Wz [] 30 20 0 (by simp) rfl w2.heap.size hn
      (try have hne : Wz.heap.size ≠ bn := by have := hN.lt; omega)
      (try replace hN := hN.later hbk); (try replace hE := hE.later hbk); (try replace hA := hA.later hbk)
      replace hbW := hbW.trans (hbk.mono hn)
      replace hn : w2.heap.size ≤ (Wz.alloc (.cells ([] : List Value).toArray 30)).heap.size := Nat.le_trans hn hbk.size
      obtain ⟨be, hbe⟩ : ∃ b, Wz.heap.size = b := ⟨_, rfl⟩
      rw [hbe] at hE0 ⊢
      (try rw [hbe] at hne)
      have hE := hE0
      clear hbk hbe hE0
      generalize Wz.alloc (.cells ([] : List Value).toArray 30) = Wz at *
      refine pl_two rfl rfl rfl rfl (fun K hK => ?_) (fun K hK => ?_)
      · have hl9 := HL.out
        refine wp_app el22 (by rfl) (by rfl) hE (by rfl) (m := l.length) (by rw [ses_len]) (HL2.out.below hbW).rows.cells (ses_oneCells l) (by simp [maxLen]; omega) (by omega) hn ?_
        intro va Wv hA0 hg
        have hbk : Below w2.heap.size Wz Wv := hE.below hg (Below.refl _ _) (Nat.le_refl _) hn
        refine hK _ _ hbk ?_
        clear hK
        (try replace hN := hN.grown hg (by intro e; apply hne; simpa [Value.ownBlock] using e))
        have hA : Own Wv w2.heap.size 30 20 va l.length (l.flatMap Ses.cells) := by simpa using hA0
        replace hbW := hbW.trans hbk
        replace hn := Nat.le_trans hn hg.size
        clear hbk hg hA0 hE hl9
        generalize Wv = Wz at *
        refine pl_one rfl rfl (fun K hK => ?_)
        have hlc := cells_20 s
        go_simp
        rw [fold_ses s]
        clear hlc
        have hbk : Below Wz.heap.size Wz (Wz.alloc (.cells s.cells.toArray 30)) := (Below.refl _ _).alloc (Nat.le_refl _) _
        refine hK _ _ (hbk.mono hn : Below w2.heap.size Wz (Wz.alloc (.cells s.cells.toArray 30))) ?_
        clear hK
        have hN0 : Blk (Wz.alloc (.cells s.cells.toArray 30)) Wz.heap.size s.cells := Blk.new' rfl
        (try have hne : be ≠ Wz.heap.size := by have := (hE.row.lt be rfl).2; omega)
        (try replace hN := hN.later hbk); (try replace hE := hE.later hbk); (try replace hA := hA.later hbk)
        replace hbW := hbW.trans (hbk.mono hn)
        replace hn : w2.heap.size ≤ (Wz.alloc (.cells s.cells.toArray 30)).heap.size := Nat.le_trans hn hbk.size
        obtain ⟨bn, hbn⟩ : ∃ b, Wz.heap.size = b := ⟨_, rfl⟩
        rw [hbn] at hN0 ⊢
        (try rw [hbn] at hne)
        have hN := hN0
        clear hbk hbn hN0
        generalize Wz.alloc (.cells s.cells.toArray 30) = Wz at *
        refine pl_one rfl rfl (fun K hK => ?_)
        have hl9 := HL.out
        refine wp_app el22 (by rfl) (by rfl) hA (by rfl) (m := 1) rfl hN.cells (ses_one s) (by simp [maxLen]; omega) (by omega) hn ?_
        intro vb Wv hB0 hg
        have hbk : Below w2.heap.size Wz Wv := hA.below hg (Below.refl _ _) (Nat.le_refl _) hn
        refine hK _ _ hbk ?_
        clear hK
        replace hbW := hbW.trans hbk
        clear hbk hg hN hA hl9
        generalize Wv = Wz at *
        (refine pl_take (d := 6) (v := ?_) rfl rfl rfl ?_ ?_; rotate_left; (focus ((intro w' hb0 hw'; go_simp) <;> with_reducible rfl)); simp only [Act.put, List.setIfInBounds_toArray, List.set_cons_zero, List.set_cons_succ])
        (refine pl_take (d := 7) (v := ?_) rfl rfl rfl ?_ ?_; rotate_left; (focus ((intro w' hb0 hw'; go_simp) <;> with_reducible rfl)); simp only [Act.put, List.setIfInBounds_toArray, List.set_cons_zero, List.set_cons_succ])
        refine pl_end ?_
        have HB0 := Lib.hid hB0; have HBW := Lib.hid (below_step HB.out hbW)
        clear hB0 hbW hn
        go_wp2
        refine bodyPost_ret (v := .tuple #[vb, .int .i64 0]) (by simp [results, Try.results11, go_sem]) rfl ?_
        rw [HR.out]
        refine ⟨_, rfl, ?_, HBW.out⟩
        exact (Own.rws (l := l ++ [s]) (by simpa using HB0.out) (by simp))
      · have hlc := cells_20 s
        go_simp
        rw [fold_ses s]
        clear hlc
        have hbk : Below Wz.heap.size Wz (Wz.alloc (.cells s.cells.toArray 30)) := (Below.refl _ _).alloc (Nat.le_refl _) _
        refine hK _ _ (hbk.mono hn : Below w2.heap.size Wz (Wz.alloc (.cells s.cells.toArray 30))) ?_
        clear hK
        have hN0 : Blk (Wz.alloc (.cells s.cells.toArray 30)) Wz.heap.size s.cells := Blk.new' rfl
        (try have hne : be ≠ Wz.heap.size := by have := (hE.row.lt be rfl).2; omega)
        (try replace hN := hN.later hbk); (try replace hE := hE.later hbk); (try replace hA := hA.later hbk)
        replace hbW := hbW.trans (hbk.mono hn)
        replace hn : w2.heap.size ≤ (Wz.alloc (.cells s.cells.toArray 30)).heap.size := Nat.le_trans hn hbk.size
        obtain ⟨bn, hbn⟩ : ∃ b, Wz.heap.size = b := ⟨_, rfl⟩
        rw [hbn] at hN0 ⊢
        (try rw [hbn] at hne)
        have hN := hN0
        clear hbk hbn hN0
        generalize Wz.alloc (.cells s.cells.toArray 30) = Wz at *
        refine pl_one rfl rfl (fun K hK => ?_)
        have hl9 := HL.out
        refine wp_app el22 (by rfl) (by rfl) hE (by rfl) (m := l.length) (by rw [ses_len]) (HL2.out.below hbW).rows.cells (ses_oneCells l) (by simp [maxLen]; omega) (by omega) hn ?_
        intro va Wv hA0 hg
        have hbk : Below w2.heap.size Wz Wv := hE.below hg (Below.refl _ _) (Nat.le_refl _) hn
        refine hK _ _ hbk ?_
        clear hK
        (try replace hN := hN.grown hg (by intro e; apply hne; simpa [Value.ownBlock] using e))
        have hA : Own Wv w2.heap.size 30 20 va l.length (l.flatMap Ses.cells) := by simpa using hA0
        replace hbW := hbW.trans hbk
        replace hn := Nat.le_trans hn hg.size
        clear hbk hg hA0 hE hl9
        generalize Wv = Wz at *
        refine pl_one rfl rfl (fun K hK => ?_)
        have hl9 := HL.out
        refine wp_app el22 (by rfl) (by rfl) hA (by rfl) (m := 1) rfl hN.cells (ses_one s) (by simp [maxLen]; omega) (by omega) hn ?_
        intro vb Wv hB0 hg
        have hbk : Below w2.heap.size Wz Wv := hA.below hg (Below.refl _ _) (Nat.le_refl _) hn
        refine hK _ _ hbk ?_
        clear hK
        replace hbW := hbW.trans hbk
        clear hbk hg hN hA hl9
        generalize Wv = Wz at *
        (refine pl_take (d := 6) (v := ?_) rfl rfl rfl ?_ ?_; rotate_left; (focus ((intro w' hb0 hw'; go_simp) <;> with_reducible rfl)); simp only [Act.put, List.setIfInBounds_toArray, List.set_cons_zero, List.set_cons_succ])
        (refine pl_take (d := 7) (v := ?_) rfl rfl rfl ?_ ?_; rotate_left; (focus ((intro w' hb0 hw'; go_simp) <;> with_reducible rfl)); simp only [Act.put, List.setIfInBounds_toArray, List.set_cons_zero, List.set_cons_succ])
        refine pl_end ?_
        have HB0 := Lib.hid hB0; have HBW := Lib.hid (below_step HB.out hbW)
        clear hB0 hbW hn
        go_wp2
        refine bodyPost_ret (v := .tuple #[vb, .int .i64 0]) (by simp [results, Try.results11, go_sem]) rfl ?_
        rw [HR.out]
        refine ⟨_, rfl, ?_, HBW.out⟩
        exact (Own.rws (l := l ++ [s]) (by simpa using HB0.out) (by simp))
    · have hlc := cells_20 s
      go_simp
      rw [fold_ses s]
      clear hlc
      have hbk : Below Wz.heap.size Wz (Wz.alloc (.cells s.cells.toArray 30)) := (Below.refl _ _).alloc (Nat.le_refl _) _
      refine hK _ _ (hbk.mono hn : Below w2.heap.size Wz (Wz.alloc (.cells s.cells.toArray 30))) ?_
      clear hK
      have hN0 : Blk (Wz.alloc (.cells s.cells.toArray 30)) Wz.heap.size s.cells := Blk.new' rfl
      (try have hne : be ≠ Wz.heap.size := by have := (hE.row.lt be rfl).2; omega)
      (try replace hN := hN.later hbk); (try replace hE := hE.later hbk); (try replace hA := hA.later hbk)
      replace hbW := hbW.trans (hbk.mono hn)
      replace hn : w2.heap.size ≤ (Wz.alloc (.cells s.cells.toArray 30)).heap.size := Nat.le_trans hn hbk.size
      obtain ⟨bn, hbn⟩ : ∃ b, Wz.heap.size = b := ⟨_, rfl⟩
      rw [hbn] at hN0 ⊢
      (try rw [hbn] at hne)
      have hN := hN0
      clear hbk hbn hN0
      generalize Wz.alloc (.cells s.cells.toArray 30) = Wz at *
      refine pl_one rfl rfl (fun K hK => ?_)
      go_simp
      have hbk : Below Wz.heap.size Wz (Wz.alloc (.cells ([] : List Value).toArray 30)) := (Below.refl _ _).alloc (Nat.le_refl _) _
      refine hK _ _ (hbk.mono hn : Below w2.heap.size Wz (Wz.alloc (.cells ([] : List Value).toArray 30))) ?_
      clear hK
      have hE0 : Own (Wz.alloc (.cells ([] : List Value).toArray 30)) w2.heap.size 30 20 (.slice (some ⟨Wz.heap.size, 0, none⟩) 0 0) 0 [] := Own.lit Wz [] 30 20 0 (by simp) rfl w2.heap.size hn
      (try have hne : Wz.heap.size ≠ bn := by have := hN.lt; omega)
      (try replace hN := hN.later hbk); (try replace hE := hE.later hbk); (try replace hA := hA.later hbk)
      replace hbW := hbW.trans (hbk.mono hn)
      replace hn : w2.heap.size ≤ (Wz.alloc (.cells ([] : List Value).toArray 30)).heap.size := Nat.le_trans hn hbk.size
      obtain ⟨be, hbe⟩ : ∃ b, Wz.heap.size = b := ⟨_, rfl⟩
      rw [hbe] at hE0 ⊢
      (try rw [hbe] at hne)
      have hE := hE0
      clear hbk hbe hE0
      generalize Wz.alloc (.cells ([] : List Value).toArray 30) = Wz at *
      refine pl_one rfl rfl (fun K hK => ?_)
      have hl9 := HL.out
      refine wp_app el22 (by rfl) (by rfl) hE (by rfl) (m := l.length) (by rw [ses_len]) (HL2.out.below hbW).rows.cells (ses_oneCells l) (by simp [maxLen]; omega) (by omega) hn ?_
      intro va Wv hA0 hg
      have hbk : Below w2.heap.size Wz Wv := hE.below hg (Below.refl _ _) (Nat.le_refl _) hn
      refine hK _ _ hbk ?_
      clear hK
      (try replace hN := hN.grown hg (by intro e; apply hne; simpa [Value.ownBlock] using e))
      have hA : Own Wv w2.heap.size 30 20 va l.length (l.flatMap Ses.cells) := by simpa using hA0
      replace hbW := hbW.trans hbk
      replace hn := Nat.le_trans hn hg.size
      clear hbk hg hA0 hE hl9
      generalize Wv = Wz at *
      refine pl_one rfl rfl (fun K hK => ?_)
      have hl9 := HL.out
      refine wp_app el22 (by rfl) (by rfl) hA (by rfl) (m := 1) rfl hN.cells (ses_one s) (by simp [maxLen]; omega) (by omega) hn ?_
      intro vb Wv hB0 hg
      have hbk : Below w2.heap.size Wz Wv := hA.below hg (Below.refl _ _) (Nat.le_refl _) hn
      refine hK _ _ hbk ?_
      clear hK
      replace hbW := hbW.trans hbk
      clear hbk hg hN hA hl9
      generalize Wv = Wz at *
      (refine pl_take (d := 6) (v := ?_) rfl rfl rfl ?_ ?_; rotate_left; (focus ((intro w' hb0 hw'; go_simp) <;> with_reducible rfl)); simp only [Act.put, List.setIfInBounds_toArray, List.set_cons_zero, List.set_cons_succ])
      (refine pl_take (d := 7) (v := ?_) rfl rfl rfl ?_ ?_; rotate_left; (focus ((intro w' hb0 hw'; go_simp) <;> with_reducible rfl)); simp only [Act.put, List.setIfInBounds_toArray, List.set_cons_zero, List.set_cons_succ])
      refine pl_end ?_
      have HB0 := Lib.hid hB0; have HBW := Lib.hid (below_step HB.out hbW)
      clear hB0 hbW hn
      go_wp2
      refine bodyPost_ret (v := .tuple #[vb, .int .i64 0]) (by simp [results, Try.results11, go_sem]) rfl ?_
      rw [HR.out]
      refine ⟨_, rfl, ?_, HBW.out⟩
      exact (Own.rws (l := l ++ [s]) (by simpa using HB0.out) (by simp))
  have h24' : ¬ (l.length : Int) < 24 := by omega
  have hdec : decide ((l.length : Int) < 24) = false := decide_eq_false h24'
  have HR0 : Hid (addD l busy s = match idleD l busy with
    | none => (l, (27 : Int))
    | some i => (l.eraseIdx i ++ [s], (0 : Int))) := by show _ = _; rw [HA.out, hag]; simp only [Bool.false_eq_true, if_false, if_pos h24]
  rw [← best_idle l busy] at HR0
  have rl : IntKind.i64.wrap ((l.length : Int) - 1) = (l.length : Int) - 1 := by
    have h1 := HL.out
    rw [IntKind.wrap_i64]; omega
  clear HA hag h24
  go_wp2_with fail
  clear h24' hdec rl
  go_loopw [8, 9] (fun v u wr => ∃ m : Nat, m ≤ l.length ∧ u = .int .i64 ((l.length : Int) - 1 - (m : Int)) ∧ v = .int .i64 (optI (bestN l busy m)) ∧ Hid (Below w2.heap.size w2 wr)) (fun _ u _ => (intOf u + 1).toNat)
  case atStart => exact ⟨0, by omega, by simp, rfl, Lib.hid (Below.refl _ _)⟩
  case round =>
    obtain ⟨m, hm, rfl, rfl, hB⟩ := hrel
    by_cases hlt : m < l.length
    · obtain ⟨i, hi⟩ : ∃ i, l.length - 1 - m = i := ⟨_, rfl⟩
      have hil : i < l.length := by omega
      have hii : (l.length : Int) - 1 - (m : Int) = (i : Int) := by omega
      have HI : Hid ((i : Int) - 1 = (l.length : Int) - 1 - ((m + 1 : Nat) : Int)) := by show _ = _; omega
      rw [hii]
      have hi0 : (0 : Int) ≤ (i : Int) := by omega
      have hi1 : (i : Int) < (l.length : Int) := by omega
      have rk : IntKind.i64.wrap ((i : Int) - 1) = (i : Int) - 1 := by
        have h1 := HL.out
        rw [IntKind.wrap_i64]; omega
      obtain ⟨b1, p1, rfl, hA⟩ := (H.out.rows.below hB.out).ses hil
      have HA := Lib.hid hA
      have HST : Hid (bestN l busy (m + 1) = if mayD busy l[i] then (match bestN l busy m with | none => some i | some b => if l[i].used ≤ useAt l b then some i else some b) else bestN l busy m) := by
        show bestStep l busy (bestN l busy m) (l.length - 1 - m) = _
        rw [hi]
        unfold bestStep
        rw [List.getElem?_eq_getElem hil]
        rfl
      have HLT : Hid (∀ b, bestN l busy m = some b → b < l.length) := fun b => best_lt l busy m b hm
      obtain ⟨x, hx⟩ : ∃ x, l[i] = x := ⟨_, rfl⟩
      rw [hx] at HA HST
      clear hx hA hi hii
      obtain ⟨wA, rfl⟩ : ∃ q, q = wr := ⟨_, rfl⟩
      obtain ⟨best, hbest⟩ : ∃ b, bestN l busy m = b := ⟨_, rfl⟩
      rw [hbest] at HST HLT ⊢
      clear hbest
      by_cases h1 : x.state = 1
      · have G1 : Hid (x.state = 1) := h1
        have hmf : mayD busy x = false := by unfold mayD; simp [h1]
        have HT : Hid (Value.int .i64 (optI best) = .int .i64 (optI (bestN l busy (m + 1)))) := by show _ = _; rw [HST.out, hmf]; rfl
        clear h1 hmf HST HLT
        go_wp2_with fail
        refine wp_region_plan none [] [] (.take 0 (.take 1 (.take 2 (.take 3 (.take 4 (.take 5 (.take 6 (.take 7 (.take 8 (.take 9 (.take 10 (.take 11 (.take 12 (.one 13 (.take 14 (.take 15 (.take 16 (.take 17 (.take 18 (.take 19 (.take 20 (.take 21 (.take 22 (.take 23 (.take 24 (.take 25 (.take 26 (.take 27 (.take 28 (.take 29 (.take 30 (.take 31 (.take 32 .done))))))))))))))))))))))))))))))))) (by kernel_rfl) (by kernel_rfl) (fun _ _ dd _ _ h => by cases dd <;> exact h) ?_
        intro W0 hW0
        have hb2 : Below w2.heap.size w2 W0 := by rw [hW0]; exact hB.out.drew
        have f0 := HA.out.later (below_drew wA)
        rw [← hW0] at f0
        clear hW0
        (refine pl_take (d := 30) (v := ?_) rfl rfl rfl ?_ ?_; rotate_left; (focus ((intro w' hb0 hw'; go_simp) <;> with_reducible rfl)); simp only [Act.put, List.setIfInBounds_toArray, List.set_cons_zero, List.set_cons_succ])
        (refine pl_take (d := 31) (v := ?_) rfl rfl rfl ?_ ?_; rotate_left; (focus ((intro w' hb0 hw'; go_simp) <;> with_reducible rfl)); simp only [Act.put, List.setIfInBounds_toArray, List.set_cons_zero, List.set_cons_succ])
        (refine pl_take (d := 32) (v := ?_) rfl rfl rfl ?_ ?_; rotate_left; (focus ((intro w' hb0 hw'; go_simp) <;> with_reducible rfl)); simp only [Act.put, List.setIfInBounds_toArray, List.set_cons_zero, List.set_cons_succ])
        (refine pl_take (d := 33) (v := ?_) rfl rfl rfl ?_ ?_; rotate_left; (focus ((intro w' hb0 hw'; go_simp) <;> with_reducible rfl)); simp only [Act.put, List.setIfInBounds_toArray, List.set_cons_zero, List.set_cons_succ])
        (refine pl_take (d := 34) (v := ?_) rfl rfl rfl ?_ ?_; rotate_left; (focus ((intro w' hb0 hw'; have x9 : w'.cell? ⟨b1, p1 + i * 20 + 9, none⟩ = some (.int .i64 x.state) := (f0.later hw').get 9 (by simp [Ses.cells]); go_simp) <;> with_reducible rfl)); simp only [Act.put, List.setIfInBounds_toArray, List.set_cons_zero, List.set_cons_succ])
        refine pl_take (d := 35) (v := .bool false) rfl rfl rfl ?_ ?_
        · intro w' hb0 hw'
          have hh := G1.out
          go_simp
        simp only [Act.put, List.setIfInBounds_toArray, List.set_cons_zero, List.set_cons_succ]
        (refine pl_take (d := 36) (v := ?_) rfl rfl rfl ?_ ?_; rotate_left; (focus ((intro w' hb0 hw'; go_simp) <;> with_reducible rfl)); simp only [Act.put, List.setIfInBounds_toArray, List.set_cons_zero, List.set_cons_succ])
        (refine pl_skip (d := 37) rfl rfl rfl ?_; simp only [Act.put, List.setIfInBounds_toArray, List.set_cons_zero, List.set_cons_succ])
        (refine pl_skip (d := 38) rfl rfl rfl ?_; simp only [Act.put, List.setIfInBounds_toArray, List.set_cons_zero, List.set_cons_succ])
        (refine pl_skip (d := 39) rfl rfl rfl ?_; simp only [Act.put, List.setIfInBounds_toArray, List.set_cons_zero, List.set_cons_succ])
        (refine pl_skip (d := 40) rfl rfl rfl ?_; simp only [Act.put, List.setIfInBounds_toArray, List.set_cons_zero, List.set_cons_succ])
        (refine pl_skip (d := 41) rfl rfl rfl ?_; simp only [Act.put, List.setIfInBounds_toArray, List.set_cons_zero, List.set_cons_succ])
        (refine pl_skip (d := 42) rfl rfl rfl ?_; simp only [Act.put, List.setIfInBounds_toArray, List.set_cons_zero, List.set_cons_succ])
        (refine pl_skip1 (d := 43) rfl rfl rfl ?_; simp only [Act.put, List.setIfInBounds_toArray, List.set_cons_zero, List.set_cons_succ])
        (refine pl_skip (d := 44) rfl rfl rfl ?_; simp only [Act.put, List.setIfInBounds_toArray, List.set_cons_zero, List.set_cons_succ])
        (refine pl_take (d := 45) (v := ?_) rfl rfl rfl ?_ ?_; rotate_left; (focus ((intro w' hb0 hw'; go_simp) <;> with_reducible rfl)); simp only [Act.put, List.setIfInBounds_toArray, List.set_cons_zero, List.set_cons_succ])
        (refine pl_take (d := 46) (v := ?_) rfl rfl rfl ?_ ?_; rotate_left; (focus ((intro w' hb0 hw'; go_simp) <;> with_reducible rfl)); simp only [Act.put, List.setIfInBounds_toArray, List.set_cons_zero, List.set_cons_succ])
        (refine pl_skip (d := 47) rfl rfl rfl ?_; simp only [Act.put, List.setIfInBounds_toArray, List.set_cons_zero, List.set_cons_succ])
        (refine pl_skip (d := 48) rfl rfl rfl ?_; simp only [Act.put, List.setIfInBounds_toArray, List.set_cons_zero, List.set_cons_succ])
        (refine pl_skip (d := 49) rfl rfl rfl ?_; simp only [Act.put, List.setIfInBounds_toArray, List.set_cons_zero, List.set_cons_succ])
        (refine pl_skip (d := 50) rfl rfl rfl ?_; simp only [Act.put, List.setIfInBounds_toArray, List.set_cons_zero, List.set_cons_succ])
        (refine pl_skip (d := 51) rfl rfl rfl ?_; simp only [Act.put, List.setIfInBounds_toArray, List.set_cons_zero, List.set_cons_succ])
        (refine pl_skip (d := 52) rfl rfl rfl ?_; simp only [Act.put, List.setIfInBounds_toArray, List.set_cons_zero, List.set_cons_succ])
        (refine pl_skip (d := 53) rfl rfl rfl ?_; simp only [Act.put, List.setIfInBounds_toArray, List.set_cons_zero, List.set_cons_succ])
        (refine pl_skip (d := 54) rfl rfl rfl ?_; simp only [Act.put, List.setIfInBounds_toArray, List.set_cons_zero, List.set_cons_succ])
        (refine pl_skip (d := 55) rfl rfl rfl ?_; simp only [Act.put, List.setIfInBounds_toArray, List.set_cons_zero, List.set_cons_succ])
        (refine pl_skip (d := 56) rfl rfl rfl ?_; simp only [Act.put, List.setIfInBounds_toArray, List.set_cons_zero, List.set_cons_succ])
        (refine pl_skip (d := 57) rfl rfl rfl ?_; simp only [Act.put, List.setIfInBounds_toArray, List.set_cons_zero, List.set_cons_succ])
        (refine pl_skip (d := 58) rfl rfl rfl ?_; simp only [Act.put, List.setIfInBounds_toArray, List.set_cons_zero, List.set_cons_succ])
        (refine pl_skip (d := 59) rfl rfl rfl ?_; simp only [Act.put, List.setIfInBounds_toArray, List.set_cons_zero, List.set_cons_succ])
        (refine pl_skip (d := 60) rfl rfl rfl ?_; simp only [Act.put, List.setIfInBounds_toArray, List.set_cons_zero, List.set_cons_succ])
        (refine pl_skip (d := 61) rfl rfl rfl ?_; simp only [Act.put, List.setIfInBounds_toArray, List.set_cons_zero, List.set_cons_succ])
        (refine pl_take (d := 62) (v := ?_) rfl rfl rfl ?_ ?_; rotate_left; (focus ((intro w' hb0 hw'; go_simp) <;> with_reducible rfl)); simp only [Act.put, List.setIfInBounds_toArray, List.set_cons_zero, List.set_cons_succ])
        refine pl_end ?_
        clear f0
        have HB2 := Lib.hid hb2
        clear hb2
        go_wp2_with fail
        refine ⟨?_, ?_⟩
        · exact ⟨m + 1, by omega, by rw [HI.out], HT.out, HB2⟩
        · (simp [intOf]) <;> omega
      · have G1 : Hid (¬ x.state = 1) := h1
        by_cases h2 : x.id ∈ busy
        · have HIN : Hid (decide (x.id ∈ busy) = true) := decide_eq_true h2
          have hmf : mayD busy x = false := by unfold mayD; simp [h2]
          have HT : Hid (Value.int .i64 (optI best) = .int .i64 (optI (bestN l busy (m + 1)))) := by show _ = _; rw [HST.out, hmf]; rfl
          clear h1 h2 hmf HST HLT
          go_wp2_with fail
          refine wp_region_plan none [] [] (.take 0 (.take 1 (.take 2 (.take 3 (.take 4 (.take 5 (.take 6 (.take 7 (.take 8 (.take 9 (.take 10 (.take 11 (.take 12 (.one 13 (.take 14 (.take 15 (.take 16 (.take 17 (.take 18 (.take 19 (.take 20 (.take 21 (.take 22 (.take 23 (.take 24 (.take 25 (.take 26 (.take 27 (.take 28 (.take 29 (.take 30 (.take 31 (.take 32 .done))))))))))))))))))))))))))))))))) (by kernel_rfl) (by kernel_rfl) (fun _ _ dd _ _ h => by cases dd <;> exact h) ?_
          intro W0 hW0
          have hb2 : Below w2.heap.size w2 W0 := by rw [hW0]; exact hB.out.drew
          have f0 := HA.out.later (below_drew wA)
          rw [← hW0] at f0
          clear hW0
          (refine pl_take (d := 30) (v := ?_) rfl rfl rfl ?_ ?_; rotate_left; (focus ((intro w' hb0 hw'; go_simp) <;> with_reducible rfl)); simp only [Act.put, List.setIfInBounds_toArray, List.set_cons_zero, List.set_cons_succ])
          (refine pl_take (d := 31) (v := ?_) rfl rfl rfl ?_ ?_; rotate_left; (focus ((intro w' hb0 hw'; go_simp) <;> with_reducible rfl)); simp only [Act.put, List.setIfInBounds_toArray, List.set_cons_zero, List.set_cons_succ])
          (refine pl_take (d := 32) (v := ?_) rfl rfl rfl ?_ ?_; rotate_left; (focus ((intro w' hb0 hw'; go_simp) <;> with_reducible rfl)); simp only [Act.put, List.setIfInBounds_toArray, List.set_cons_zero, List.set_cons_succ])
          (refine pl_take (d := 33) (v := ?_) rfl rfl rfl ?_ ?_; rotate_left; (focus ((intro w' hb0 hw'; go_simp) <;> with_reducible rfl)); simp only [Act.put, List.setIfInBounds_toArray, List.set_cons_zero, List.set_cons_succ])
          (refine pl_take (d := 34) (v := ?_) rfl rfl rfl ?_ ?_; rotate_left; (focus ((intro w' hb0 hw'; have x9 : w'.cell? ⟨b1, p1 + i * 20 + 9, none⟩ = some (.int .i64 x.state) := (f0.later hw').get 9 (by simp [Ses.cells]); go_simp) <;> with_reducible rfl)); simp only [Act.put, List.setIfInBounds_toArray, List.set_cons_zero, List.set_cons_succ])
          refine pl_take (d := 35) (v := .bool true) rfl rfl rfl ?_ ?_
          · intro w' hb0 hw'
            have hh := G1.out
            go_simp
          simp only [Act.put, List.setIfInBounds_toArray, List.set_cons_zero, List.set_cons_succ]
          (refine pl_take (d := 36) (v := ?_) rfl rfl rfl ?_ ?_; rotate_left; (focus ((intro w' hb0 hw'; go_simp) <;> with_reducible rfl)); simp only [Act.put, List.setIfInBounds_toArray, List.set_cons_zero, List.set_cons_succ])
          (refine pl_take (d := 37) (v := ?_) rfl rfl rfl ?_ ?_; rotate_left; (focus ((intro w' hb0 hw'; go_simp) <;> with_reducible rfl)); simp only [Act.put, List.setIfInBounds_toArray, List.set_cons_zero, List.set_cons_succ])
          (refine pl_take (d := 38) (v := ?_) rfl rfl rfl ?_ ?_; rotate_left; (focus ((intro w' hb0 hw'; go_simp) <;> with_reducible rfl)); simp only [Act.put, List.setIfInBounds_toArray, List.set_cons_zero, List.set_cons_succ])
          (refine pl_take (d := 39) (v := ?_) rfl rfl rfl ?_ ?_; rotate_left; (focus ((intro w' hb0 hw'; go_simp) <;> with_reducible rfl)); simp only [Act.put, List.setIfInBounds_toArray, List.set_cons_zero, List.set_cons_succ])
          (refine pl_take (d := 40) (v := ?_) rfl rfl rfl ?_ ?_; rotate_left; (focus ((intro w' hb0 hw'; go_simp) <;> with_reducible rfl)); simp only [Act.put, List.setIfInBounds_toArray, List.set_cons_zero, List.set_cons_succ])
          (refine pl_take (d := 41) (v := ?_) rfl rfl rfl ?_ ?_; rotate_left; (focus ((intro w' hb0 hw'; go_simp) <;> with_reducible rfl)); simp only [Act.put, List.setIfInBounds_toArray, List.set_cons_zero, List.set_cons_succ])
          (refine pl_take (d := 42) (v := ?_) rfl rfl rfl ?_ ?_; rotate_left; (focus ((intro w' hb0 hw'; have x0 : w'.cell? ⟨b1, p1 + i * 20, none⟩ = some (.int .u64 x.id) := (f0.later hw').get 0 (by simp [Ses.cells]); go_simp) <;> with_reducible rfl)); simp only [Act.put, List.setIfInBounds_toArray, List.set_cons_zero, List.set_cons_succ])
          refine pl_one rfl rfl (fun K hK => ?_)
          go_simp
          refine (in33 busy x.id W0 ob _ cb (HU.out.below hb2)).mono ?_
          rintro r W1 ⟨rfl, hbk⟩
          rw [HIN.out]
          refine hK _ _ (hbk : Rel none W0 W1) ?_
          clear hK
          replace hb2 := below_step hb2 hbk; replace f0 := f0.later hbk
          clear hbk
          (refine pl_take (d := 44) (v := ?_) rfl rfl rfl ?_ ?_; rotate_left; (focus ((intro w' hb0 hw'; go_simp) <;> with_reducible rfl)); simp only [Act.put, List.setIfInBounds_toArray, List.set_cons_zero, List.set_cons_succ])
          (refine pl_take (d := 45) (v := ?_) rfl rfl rfl ?_ ?_; rotate_left; (focus ((intro w' hb0 hw'; go_simp) <;> with_reducible rfl)); simp only [Act.put, List.setIfInBounds_toArray, List.set_cons_zero, List.set_cons_succ])
          (refine pl_take (d := 46) (v := ?_) rfl rfl rfl ?_ ?_; rotate_left; (focus ((intro w' hb0 hw'; go_simp) <;> with_reducible rfl)); simp only [Act.put, List.setIfInBounds_toArray, List.set_cons_zero, List.set_cons_succ])
          (refine pl_skip (d := 47) rfl rfl rfl ?_; simp only [Act.put, List.setIfInBounds_toArray, List.set_cons_zero, List.set_cons_succ])
          (refine pl_skip (d := 48) rfl rfl rfl ?_; simp only [Act.put, List.setIfInBounds_toArray, List.set_cons_zero, List.set_cons_succ])
          (refine pl_skip (d := 49) rfl rfl rfl ?_; simp only [Act.put, List.setIfInBounds_toArray, List.set_cons_zero, List.set_cons_succ])
          (refine pl_skip (d := 50) rfl rfl rfl ?_; simp only [Act.put, List.setIfInBounds_toArray, List.set_cons_zero, List.set_cons_succ])
          (refine pl_skip (d := 51) rfl rfl rfl ?_; simp only [Act.put, List.setIfInBounds_toArray, List.set_cons_zero, List.set_cons_succ])
          (refine pl_skip (d := 52) rfl rfl rfl ?_; simp only [Act.put, List.setIfInBounds_toArray, List.set_cons_zero, List.set_cons_succ])
          (refine pl_skip (d := 53) rfl rfl rfl ?_; simp only [Act.put, List.setIfInBounds_toArray, List.set_cons_zero, List.set_cons_succ])
          (refine pl_skip (d := 54) rfl rfl rfl ?_; simp only [Act.put, List.setIfInBounds_toArray, List.set_cons_zero, List.set_cons_succ])
          (refine pl_skip (d := 55) rfl rfl rfl ?_; simp only [Act.put, List.setIfInBounds_toArray, List.set_cons_zero, List.set_cons_succ])
          (refine pl_skip (d := 56) rfl rfl rfl ?_; simp only [Act.put, List.setIfInBounds_toArray, List.set_cons_zero, List.set_cons_succ])
          (refine pl_skip (d := 57) rfl rfl rfl ?_; simp only [Act.put, List.setIfInBounds_toArray, List.set_cons_zero, List.set_cons_succ])
          (refine pl_skip (d := 58) rfl rfl rfl ?_; simp only [Act.put, List.setIfInBounds_toArray, List.set_cons_zero, List.set_cons_succ])
          (refine pl_skip (d := 59) rfl rfl rfl ?_; simp only [Act.put, List.setIfInBounds_toArray, List.set_cons_zero, List.set_cons_succ])
          (refine pl_skip (d := 60) rfl rfl rfl ?_; simp only [Act.put, List.setIfInBounds_toArray, List.set_cons_zero, List.set_cons_succ])
          (refine pl_skip (d := 61) rfl rfl rfl ?_; simp only [Act.put, List.setIfInBounds_toArray, List.set_cons_zero, List.set_cons_succ])
          (refine pl_take (d := 62) (v := ?_) rfl rfl rfl ?_ ?_; rotate_left; (focus ((intro w' hb0 hw'; go_simp) <;> with_reducible rfl)); simp only [Act.put, List.setIfInBounds_toArray, List.set_cons_zero, List.set_cons_succ])
          refine pl_end ?_
          clear f0
          have HB2 := Lib.hid hb2
          clear hb2
          go_wp2_with fail
          refine ⟨?_, ?_⟩
          · exact ⟨m + 1, by omega, by rw [HI.out], HT.out, HB2⟩
          · (simp [intOf]) <;> omega
        · have HIN : Hid (decide (x.id ∈ busy) = false) := decide_eq_false h2
          have hmt : mayD busy x = true := by unfold mayD; simp [h1, h2]
          cases best with
          | none =>
            have HT : Hid (Value.int .i64 (i : Int) = .int .i64 (optI (bestN l busy (m + 1)))) := by show _ = _; rw [HST.out, hmt]; rfl
            clear h1 h2 hmt HST HLT
            simp only [optI]
            go_wp2_with fail
            refine wp_region_plan none [] [] (.take 0 (.take 1 (.take 2 (.take 3 (.take 4 (.take 5 (.take 6 (.take 7 (.take 8 (.take 9 (.take 10 (.take 11 (.take 12 (.one 13 (.take 14 (.take 15 (.take 16 (.take 17 (.take 18 (.take 19 (.take 20 (.take 21 (.take 22 (.take 23 (.take 24 (.take 25 (.take 26 (.take 27 (.take 28 (.take 29 (.take 30 (.take 31 (.take 32 .done))))))))))))))))))))))))))))))))) (by kernel_rfl) (by kernel_rfl) (fun _ _ dd _ _ h => by cases dd <;> exact h) ?_
            intro W0 hW0
            have hb2 : Below w2.heap.size w2 W0 := by rw [hW0]; exact hB.out.drew
            have f0 := HA.out.later (below_drew wA)
            rw [← hW0] at f0
            clear hW0
            (refine pl_take (d := 30) (v := ?_) rfl rfl rfl ?_ ?_; rotate_left; (focus ((intro w' hb0 hw'; go_simp) <;> with_reducible rfl)); simp only [Act.put, List.setIfInBounds_toArray, List.set_cons_zero, List.set_cons_succ])
            (refine pl_take (d := 31) (v := ?_) rfl rfl rfl ?_ ?_; rotate_left; (focus ((intro w' hb0 hw'; go_simp) <;> with_reducible rfl)); simp only [Act.put, List.setIfInBounds_toArray, List.set_cons_zero, List.set_cons_succ])
            (refine pl_take (d := 32) (v := ?_) rfl rfl rfl ?_ ?_; rotate_left; (focus ((intro w' hb0 hw'; go_simp) <;> with_reducible rfl)); simp only [Act.put, List.setIfInBounds_toArray, List.set_cons_zero, List.set_cons_succ])
            (refine pl_take (d := 33) (v := ?_) rfl rfl rfl ?_ ?_; rotate_left; (focus ((intro w' hb0 hw'; go_simp) <;> with_reducible rfl)); simp only [Act.put, List.setIfInBounds_toArray, List.set_cons_zero, List.set_cons_succ])
            (refine pl_take (d := 34) (v := ?_) rfl rfl rfl ?_ ?_; rotate_left; (focus ((intro w' hb0 hw'; have x9 : w'.cell? ⟨b1, p1 + i * 20 + 9, none⟩ = some (.int .i64 x.state) := (f0.later hw').get 9 (by simp [Ses.cells]); go_simp) <;> with_reducible rfl)); simp only [Act.put, List.setIfInBounds_toArray, List.set_cons_zero, List.set_cons_succ])
            refine pl_take (d := 35) (v := .bool true) rfl rfl rfl ?_ ?_
            · intro w' hb0 hw'
              have hh := G1.out
              go_simp
            simp only [Act.put, List.setIfInBounds_toArray, List.set_cons_zero, List.set_cons_succ]
            (refine pl_take (d := 36) (v := ?_) rfl rfl rfl ?_ ?_; rotate_left; (focus ((intro w' hb0 hw'; go_simp) <;> with_reducible rfl)); simp only [Act.put, List.setIfInBounds_toArray, List.set_cons_zero, List.set_cons_succ])
            (refine pl_take (d := 37) (v := ?_) rfl rfl rfl ?_ ?_; rotate_left; (focus ((intro w' hb0 hw'; go_simp) <;> with_reducible rfl)); simp only [Act.put, List.setIfInBounds_toArray, List.set_cons_zero, List.set_cons_succ])
            (refine pl_take (d := 38) (v := ?_) rfl rfl rfl ?_ ?_; rotate_left; (focus ((intro w' hb0 hw'; go_simp) <;> with_reducible rfl)); simp only [Act.put, List.setIfInBounds_toArray, List.set_cons_zero, List.set_cons_succ])
            (refine pl_take (d := 39) (v := ?_) rfl rfl rfl ?_ ?_; rotate_left; (focus ((intro w' hb0 hw'; go_simp) <;> with_reducible rfl)); simp only [Act.put, List.setIfInBounds_toArray, List.set_cons_zero, List.set_cons_succ])
            (refine pl_take (d := 40) (v := ?_) rfl rfl rfl ?_ ?_; rotate_left; (focus ((intro w' hb0 hw'; go_simp) <;> with_reducible rfl)); simp only [Act.put, List.setIfInBounds_toArray, List.set_cons_zero, List.set_cons_succ])
            (refine pl_take (d := 41) (v := ?_) rfl rfl rfl ?_ ?_; rotate_left; (focus ((intro w' hb0 hw'; go_simp) <;> with_reducible rfl)); simp only [Act.put, List.setIfInBounds_toArray, List.set_cons_zero, List.set_cons_succ])
            (refine pl_take (d := 42) (v := ?_) rfl rfl rfl ?_ ?_; rotate_left; (focus ((intro w' hb0 hw'; have x0 : w'.cell? ⟨b1, p1 + i * 20, none⟩ = some (.int .u64 x.id) := (f0.later hw').get 0 (by simp [Ses.cells]); go_simp) <;> with_reducible rfl)); simp only [Act.put, List.setIfInBounds_toArray, List.set_cons_zero, List.set_cons_succ])
            refine pl_one rfl rfl (fun K hK => ?_)
            go_simp
            refine (in33 busy x.id W0 ob _ cb (HU.out.below hb2)).mono ?_
            rintro r W1 ⟨rfl, hbk⟩
            rw [HIN.out]
            refine hK _ _ (hbk : Rel none W0 W1) ?_
            clear hK
            replace hb2 := below_step hb2 hbk; replace f0 := f0.later hbk
            clear hbk
            (refine pl_take (d := 44) (v := ?_) rfl rfl rfl ?_ ?_; rotate_left; (focus ((intro w' hb0 hw'; go_simp) <;> with_reducible rfl)); simp only [Act.put, List.setIfInBounds_toArray, List.set_cons_zero, List.set_cons_succ])
            (refine pl_take (d := 45) (v := ?_) rfl rfl rfl ?_ ?_; rotate_left; (focus ((intro w' hb0 hw'; go_simp) <;> with_reducible rfl)); simp only [Act.put, List.setIfInBounds_toArray, List.set_cons_zero, List.set_cons_succ])
            (refine pl_take (d := 46) (v := ?_) rfl rfl rfl ?_ ?_; rotate_left; (focus ((intro w' hb0 hw'; go_simp) <;> with_reducible rfl)); simp only [Act.put, List.setIfInBounds_toArray, List.set_cons_zero, List.set_cons_succ])
            (refine pl_take (d := 47) (v := ?_) rfl rfl rfl ?_ ?_; rotate_left; (focus ((intro w' hb0 hw'; go_simp) <;> with_reducible rfl)); simp only [Act.put, List.setIfInBounds_toArray, List.set_cons_zero, List.set_cons_succ])
            refine pl_take (d := 48) (v := .bool true) rfl rfl rfl ?_ ?_
            · intro w' hb0 hw'
              go_simp
            simp only [Act.put, List.setIfInBounds_toArray, List.set_cons_zero, List.set_cons_succ]
            (refine pl_take (d := 49) (v := ?_) rfl rfl rfl ?_ ?_; rotate_left; (focus ((intro w' hb0 hw'; go_simp) <;> with_reducible rfl)); simp only [Act.put, List.setIfInBounds_toArray, List.set_cons_zero, List.set_cons_succ])
            (refine pl_skip (d := 50) rfl rfl rfl ?_; simp only [Act.put, List.setIfInBounds_toArray, List.set_cons_zero, List.set_cons_succ])
            (refine pl_skip (d := 51) rfl rfl rfl ?_; simp only [Act.put, List.setIfInBounds_toArray, List.set_cons_zero, List.set_cons_succ])
            (refine pl_skip (d := 52) rfl rfl rfl ?_; simp only [Act.put, List.setIfInBounds_toArray, List.set_cons_zero, List.set_cons_succ])
            (refine pl_skip (d := 53) rfl rfl rfl ?_; simp only [Act.put, List.setIfInBounds_toArray, List.set_cons_zero, List.set_cons_succ])
            (refine pl_skip (d := 54) rfl rfl rfl ?_; simp only [Act.put, List.setIfInBounds_toArray, List.set_cons_zero, List.set_cons_succ])
            (refine pl_skip (d := 55) rfl rfl rfl ?_; simp only [Act.put, List.setIfInBounds_toArray, List.set_cons_zero, List.set_cons_succ])
            (refine pl_skip (d := 56) rfl rfl rfl ?_; simp only [Act.put, List.setIfInBounds_toArray, List.set_cons_zero, List.set_cons_succ])
            (refine pl_skip (d := 57) rfl rfl rfl ?_; simp only [Act.put, List.setIfInBounds_toArray, List.set_cons_zero, List.set_cons_succ])
            (refine pl_skip (d := 58) rfl rfl rfl ?_; simp only [Act.put, List.setIfInBounds_toArray, List.set_cons_zero, List.set_cons_succ])
            (refine pl_skip (d := 59) rfl rfl rfl ?_; simp only [Act.put, List.setIfInBounds_toArray, List.set_cons_zero, List.set_cons_succ])
            (refine pl_skip (d := 60) rfl rfl rfl ?_; simp only [Act.put, List.setIfInBounds_toArray, List.set_cons_zero, List.set_cons_succ])
            (refine pl_take (d := 61) (v := ?_) rfl rfl rfl ?_ ?_; rotate_left; (focus ((intro w' hb0 hw'; go_simp) <;> with_reducible rfl)); simp only [Act.put, List.setIfInBounds_toArray, List.set_cons_zero, List.set_cons_succ])
            (refine pl_take (d := 62) (v := ?_) rfl rfl rfl ?_ ?_; rotate_left; (focus ((intro w' hb0 hw'; go_simp) <;> with_reducible rfl)); simp only [Act.put, List.setIfInBounds_toArray, List.set_cons_zero, List.set_cons_succ])
            refine pl_end ?_
            clear f0
            have HB2 := Lib.hid hb2
            clear hb2
            go_wp2_with fail
            refine ⟨?_, ?_⟩
            · exact ⟨m + 1, by omega, by rw [HI.out], HT.out, HB2⟩
            · (simp [intOf]) <;> omega
          | some b =>
            replace HST : Hid (bestN l busy (m + 1) = if mayD busy x then (if x.used ≤ useAt l b then some i else some b) else some b) := HST.out
            have hbl := HLT.out b rfl
            have hb2 : (b : Int) < (l.length : Int) := by omega
            have G3 : Hid (¬ (b : Int) < 0) := by show ¬ _; omega
            obtain ⟨b2, p2, e2, hY⟩ := H.out.rows.ses hbl
            cases e2
            rw [use_at l hbl] at HST
            obtain ⟨y, hy⟩ : ∃ t, l[b] = t := ⟨_, rfl⟩
            rw [hy] at hY HST
            have HY := Lib.hid hY
            clear hy hY hbl
            simp only [optI]
            by_cases hu : x.used ≤ y.used
            · have G4 : Hid (x.used ≤ y.used) := hu
              have HT : Hid (Value.int .i64 (i : Int) = .int .i64 (optI (bestN l busy (m + 1)))) := by show _ = _; rw [HST.out, hmt]; simp only [if_true, if_pos hu]; rfl
              clear h1 h2 hmt HST HLT hu
              go_wp2_with fail
              refine wp_region_plan none [] [] (.take 0 (.take 1 (.take 2 (.take 3 (.take 4 (.take 5 (.take 6 (.take 7 (.take 8 (.take 9 (.take 10 (.take 11 (.take 12 (.one 13 (.take 14 (.take 15 (.take 16 (.take 17 (.take 18 (.take 19 (.take 20 (.take 21 (.take 22 (.take 23 (.take 24 (.take 25 (.take 26 (.take 27 (.take 28 (.take 29 (.take 30 (.take 31 (.take 32 .done))))))))))))))))))))))))))))))))) (by kernel_rfl) (by kernel_rfl) (fun _ _ dd _ _ h => by cases dd <;> exact h) ?_
              intro W0 hW0
              have hb2 : Below w2.heap.size w2 W0 := by rw [hW0]; exact hB.out.drew
              have f0 := HA.out.later (below_drew wA)
              rw [← hW0] at f0
              have g0 := HY.out.later hb2
              clear hW0
              (refine pl_take (d := 30) (v := ?_) rfl rfl rfl ?_ ?_; rotate_left; (focus ((intro w' hb0 hw'; go_simp) <;> with_reducible rfl)); simp only [Act.put, List.setIfInBounds_toArray, List.set_cons_zero, List.set_cons_succ])
              (refine pl_take (d := 31) (v := ?_) rfl rfl rfl ?_ ?_; rotate_left; (focus ((intro w' hb0 hw'; go_simp) <;> with_reducible rfl)); simp only [Act.put, List.setIfInBounds_toArray, List.set_cons_zero, List.set_cons_succ])
              (refine pl_take (d := 32) (v := ?_) rfl rfl rfl ?_ ?_; rotate_left; (focus ((intro w' hb0 hw'; go_simp) <;> with_reducible rfl)); simp only [Act.put, List.setIfInBounds_toArray, List.set_cons_zero, List.set_cons_succ])
              (refine pl_take (d := 33) (v := ?_) rfl rfl rfl ?_ ?_; rotate_left; (focus ((intro w' hb0 hw'; go_simp) <;> with_reducible rfl)); simp only [Act.put, List.setIfInBounds_toArray, List.set_cons_zero, List.set_cons_succ])
              (refine pl_take (d := 34) (v := ?_) rfl rfl rfl ?_ ?_; rotate_left; (focus ((intro w' hb0 hw'; have x9 : w'.cell? ⟨b1, p1 + i * 20 + 9, none⟩ = some (.int .i64 x.state) := (f0.later hw').get 9 (by simp [Ses.cells]); go_simp) <;> with_reducible rfl)); simp only [Act.put, List.setIfInBounds_toArray, List.set_cons_zero, List.set_cons_succ])
              refine pl_take (d := 35) (v := .bool true) rfl rfl rfl ?_ ?_
              · intro w' hb0 hw'
                have hh := G1.out
                go_simp
              simp only [Act.put, List.setIfInBounds_toArray, List.set_cons_zero, List.set_cons_succ]
              (refine pl_take (d := 36) (v := ?_) rfl rfl rfl ?_ ?_; rotate_left; (focus ((intro w' hb0 hw'; go_simp) <;> with_reducible rfl)); simp only [Act.put, List.setIfInBounds_toArray, List.set_cons_zero, List.set_cons_succ])
              (refine pl_take (d := 37) (v := ?_) rfl rfl rfl ?_ ?_; rotate_left; (focus ((intro w' hb0 hw'; go_simp) <;> with_reducible rfl)); simp only [Act.put, List.setIfInBounds_toArray, List.set_cons_zero, List.set_cons_succ])
              (refine pl_take (d := 38) (v := ?_) rfl rfl rfl ?_ ?_; rotate_left; (focus ((intro w' hb0 hw'; go_simp) <;> with_reducible rfl)); simp only [Act.put, List.setIfInBounds_toArray, List.set_cons_zero, List.set_cons_succ])
              (refine pl_take (d := 39) (v := ?_) rfl rfl rfl ?_ ?_; rotate_left; (focus ((intro w' hb0 hw'; go_simp) <;> with_reducible rfl)); simp only [Act.put, List.setIfInBounds_toArray, List.set_cons_zero, List.set_cons_succ])
              (refine pl_take (d := 40) (v := ?_) rfl rfl rfl ?_ ?_; rotate_left; (focus ((intro w' hb0 hw'; go_simp) <;> with_reducible rfl)); simp only [Act.put, List.setIfInBounds_toArray, List.set_cons_zero, List.set_cons_succ])
              (refine pl_take (d := 41) (v := ?_) rfl rfl rfl ?_ ?_; rotate_left; (focus ((intro w' hb0 hw'; go_simp) <;> with_reducible rfl)); simp only [Act.put, List.setIfInBounds_toArray, List.set_cons_zero, List.set_cons_succ])
              (refine pl_take (d := 42) (v := ?_) rfl rfl rfl ?_ ?_; rotate_left; (focus ((intro w' hb0 hw'; have x0 : w'.cell? ⟨b1, p1 + i * 20, none⟩ = some (.int .u64 x.id) := (f0.later hw').get 0 (by simp [Ses.cells]); go_simp) <;> with_reducible rfl)); simp only [Act.put, List.setIfInBounds_toArray, List.set_cons_zero, List.set_cons_succ])
              refine pl_one rfl rfl (fun K hK => ?_)
              go_simp
              refine (in33 busy x.id W0 ob _ cb (HU.out.below hb2)).mono ?_
              rintro r W1 ⟨rfl, hbk⟩
              rw [HIN.out]
              refine hK _ _ (hbk : Rel none W0 W1) ?_
              clear hK
              replace hb2 := below_step hb2 hbk; replace f0 := f0.later hbk
              replace g0 := g0.later hbk
              clear hbk
              (refine pl_take (d := 44) (v := ?_) rfl rfl rfl ?_ ?_; rotate_left; (focus ((intro w' hb0 hw'; go_simp) <;> with_reducible rfl)); simp only [Act.put, List.setIfInBounds_toArray, List.set_cons_zero, List.set_cons_succ])
              (refine pl_take (d := 45) (v := ?_) rfl rfl rfl ?_ ?_; rotate_left; (focus ((intro w' hb0 hw'; go_simp) <;> with_reducible rfl)); simp only [Act.put, List.setIfInBounds_toArray, List.set_cons_zero, List.set_cons_succ])
              (refine pl_take (d := 46) (v := ?_) rfl rfl rfl ?_ ?_; rotate_left; (focus ((intro w' hb0 hw'; go_simp) <;> with_reducible rfl)); simp only [Act.put, List.setIfInBounds_toArray, List.set_cons_zero, List.set_cons_succ])
              (refine pl_take (d := 47) (v := ?_) rfl rfl rfl ?_ ?_; rotate_left; (focus ((intro w' hb0 hw'; go_simp) <;> with_reducible rfl)); simp only [Act.put, List.setIfInBounds_toArray, List.set_cons_zero, List.set_cons_succ])
              refine pl_take (d := 48) (v := .bool false) rfl rfl rfl ?_ ?_
              · intro w' hb0 hw'
                have hh := G3.out
                go_simp
                (try omega)
              simp only [Act.put, List.setIfInBounds_toArray, List.set_cons_zero, List.set_cons_succ]
              (refine pl_take (d := 49) (v := ?_) rfl rfl rfl ?_ ?_; rotate_left; (focus ((intro w' hb0 hw'; go_simp) <;> with_reducible rfl)); simp only [Act.put, List.setIfInBounds_toArray, List.set_cons_zero, List.set_cons_succ])
              (refine pl_take (d := 50) (v := ?_) rfl rfl rfl ?_ ?_; rotate_left; (focus ((intro w' hb0 hw'; go_simp) <;> with_reducible rfl)); simp only [Act.put, List.setIfInBounds_toArray, List.set_cons_zero, List.set_cons_succ])
              (refine pl_take (d := 51) (v := ?_) rfl rfl rfl ?_ ?_; rotate_left; (focus ((intro w' hb0 hw'; go_simp) <;> with_reducible rfl)); simp only [Act.put, List.setIfInBounds_toArray, List.set_cons_zero, List.set_cons_succ])
              (refine pl_take (d := 52) (v := ?_) rfl rfl rfl ?_ ?_; rotate_left; (focus ((intro w' hb0 hw'; go_simp) <;> with_reducible rfl)); simp only [Act.put, List.setIfInBounds_toArray, List.set_cons_zero, List.set_cons_succ])
              (refine pl_take (d := 53) (v := ?_) rfl rfl rfl ?_ ?_; rotate_left; (focus ((intro w' hb0 hw'; go_simp) <;> with_reducible rfl)); simp only [Act.put, List.setIfInBounds_toArray, List.set_cons_zero, List.set_cons_succ])
              (refine pl_take (d := 54) (v := ?_) rfl rfl rfl ?_ ?_; rotate_left; (focus ((intro w' hb0 hw'; have x19 : w'.cell? ⟨b1, p1 + i * 20 + 19, none⟩ = some (.int .i64 x.used) := (f0.later hw').get 19 (by simp [Ses.cells]); go_simp) <;> with_reducible rfl)); simp only [Act.put, List.setIfInBounds_toArray, List.set_cons_zero, List.set_cons_succ])
              (refine pl_take (d := 55) (v := ?_) rfl rfl rfl ?_ ?_; rotate_left; (focus ((intro w' hb0 hw'; go_simp) <;> with_reducible rfl)); simp only [Act.put, List.setIfInBounds_toArray, List.set_cons_zero, List.set_cons_succ])
              (refine pl_take (d := 56) (v := ?_) rfl rfl rfl ?_ ?_; rotate_left; (focus ((intro w' hb0 hw'; go_simp) <;> with_reducible rfl)); simp only [Act.put, List.setIfInBounds_toArray, List.set_cons_zero, List.set_cons_succ])
              (refine pl_take (d := 57) (v := ?_) rfl rfl rfl ?_ ?_; rotate_left; (focus ((intro w' hb0 hw'; go_simp) <;> with_reducible rfl)); simp only [Act.put, List.setIfInBounds_toArray, List.set_cons_zero, List.set_cons_succ])
              (refine pl_take (d := 58) (v := ?_) rfl rfl rfl ?_ ?_; rotate_left; (focus ((intro w' hb0 hw'; go_simp) <;> with_reducible rfl)); simp only [Act.put, List.setIfInBounds_toArray, List.set_cons_zero, List.set_cons_succ])
              (refine pl_take (d := 59) (v := ?_) rfl rfl rfl ?_ ?_; rotate_left; (focus ((intro w' hb0 hw'; have y19 : w'.cell? ⟨b1, p1 + b * 20 + 19, none⟩ = some (.int .i64 y.used) := (g0.later hw').get 19 (by simp [Ses.cells]); go_simp) <;> with_reducible rfl)); simp only [Act.put, List.setIfInBounds_toArray, List.set_cons_zero, List.set_cons_succ])
              refine pl_take (d := 60) (v := .bool true) rfl rfl rfl ?_ ?_
              · intro w' hb0 hw'
                have hh := G4.out
                go_simp
                (try omega)
              simp only [Act.put, List.setIfInBounds_toArray, List.set_cons_zero, List.set_cons_succ]
              (refine pl_take (d := 61) (v := ?_) rfl rfl rfl ?_ ?_; rotate_left; (focus ((intro w' hb0 hw'; go_simp) <;> with_reducible rfl)); simp only [Act.put, List.setIfInBounds_toArray, List.set_cons_zero, List.set_cons_succ])
              (refine pl_take (d := 62) (v := ?_) rfl rfl rfl ?_ ?_; rotate_left; (focus ((intro w' hb0 hw'; go_simp) <;> with_reducible rfl)); simp only [Act.put, List.setIfInBounds_toArray, List.set_cons_zero, List.set_cons_succ])
              refine pl_end ?_
              clear f0 g0
              have HB2 := Lib.hid hb2
              clear hb2
              go_wp2_with fail
              refine ⟨?_, ?_⟩
              · exact ⟨m + 1, by omega, by rw [HI.out], HT.out, HB2⟩
              · (simp [intOf]) <;> omega
            · have G4 : Hid (¬ x.used ≤ y.used) := hu
              have HT : Hid (Value.int .i64 (b : Int) = .int .i64 (optI (bestN l busy (m + 1)))) := by show _ = _; rw [HST.out, hmt]; simp only [if_true, if_neg hu]; rfl
              clear h1 h2 hmt HST HLT hu
              go_wp2_with fail
              refine wp_region_plan none [] [] (.take 0 (.take 1 (.take 2 (.take 3 (.take 4 (.take 5 (.take 6 (.take 7 (.take 8 (.take 9 (.take 10 (.take 11 (.take 12 (.one 13 (.take 14 (.take 15 (.take 16 (.take 17 (.take 18 (.take 19 (.take 20 (.take 21 (.take 22 (.take 23 (.take 24 (.take 25 (.take 26 (.take 27 (.take 28 (.take 29 (.take 30 (.take 31 (.take 32 .done))))))))))))))))))))))))))))))))) (by kernel_rfl) (by kernel_rfl) (fun _ _ dd _ _ h => by cases dd <;> exact h) ?_
              intro W0 hW0
              have hb2 : Below w2.heap.size w2 W0 := by rw [hW0]; exact hB.out.drew
              have f0 := HA.out.later (below_drew wA)
              rw [← hW0] at f0
              have g0 := HY.out.later hb2
              clear hW0
              (refine pl_take (d := 30) (v := ?_) rfl rfl rfl ?_ ?_; rotate_left; (focus ((intro w' hb0 hw'; go_simp) <;> with_reducible rfl)); simp only [Act.put, List.setIfInBounds_toArray, List.set_cons_zero, List.set_cons_succ])
              (refine pl_take (d := 31) (v := ?_) rfl rfl rfl ?_ ?_; rotate_left; (focus ((intro w' hb0 hw'; go_simp) <;> with_reducible rfl)); simp only [Act.put, List.setIfInBounds_toArray, List.set_cons_zero, List.set_cons_succ])
              (refine pl_take (d := 32) (v := ?_) rfl rfl rfl ?_ ?_; rotate_left; (focus ((intro w' hb0 hw'; go_simp) <;> with_reducible rfl)); simp only [Act.put, List.setIfInBounds_toArray, List.set_cons_zero, List.set_cons_succ])
              (refine pl_take (d := 33) (v := ?_) rfl rfl rfl ?_ ?_; rotate_left; (focus ((intro w' hb0 hw'; go_simp) <;> with_reducible rfl)); simp only [Act.put, List.setIfInBounds_toArray, List.set_cons_zero, List.set_cons_succ])
              (refine pl_take (d := 34) (v := ?_) rfl rfl rfl ?_ ?_; rotate_left; (focus ((intro w' hb0 hw'; have x9 : w'.cell? ⟨b1, p1 + i * 20 + 9, none⟩ = some (.int .i64 x.state) := (f0.later hw').get 9 (by simp [Ses.cells]); go_simp) <;> with_reducible rfl)); simp only [Act.put, List.setIfInBounds_toArray, List.set_cons_zero, List.set_cons_succ])
              refine pl_take (d := 35) (v := .bool true) rfl rfl rfl ?_ ?_
              · intro w' hb0 hw'
                have hh := G1.out
                go_simp
              simp only [Act.put, List.setIfInBounds_toArray, List.set_cons_zero, List.set_cons_succ]
              (refine pl_take (d := 36) (v := ?_) rfl rfl rfl ?_ ?_; rotate_left; (focus ((intro w' hb0 hw'; go_simp) <;> with_reducible rfl)); simp only [Act.put, List.setIfInBounds_toArray, List.set_cons_zero, List.set_cons_succ])
              (refine pl_take (d := 37) (v := ?_) rfl rfl rfl ?_ ?_; rotate_left; (focus ((intro w' hb0 hw'; go_simp) <;> with_reducible rfl)); simp only [Act.put, List.setIfInBounds_toArray, List.set_cons_zero, List.set_cons_succ])
              (refine pl_take (d := 38) (v := ?_) rfl rfl rfl ?_ ?_; rotate_left; (focus ((intro w' hb0 hw'; go_simp) <;> with_reducible rfl)); simp only [Act.put, List.setIfInBounds_toArray, List.set_cons_zero, List.set_cons_succ])
              (refine pl_take (d := 39) (v := ?_) rfl rfl rfl ?_ ?_; rotate_left; (focus ((intro w' hb0 hw'; go_simp) <;> with_reducible rfl)); simp only [Act.put, List.setIfInBounds_toArray, List.set_cons_zero, List.set_cons_succ])
              (refine pl_take (d := 40) (v := ?_) rfl rfl rfl ?_ ?_; rotate_left; (focus ((intro w' hb0 hw'; go_simp) <;> with_reducible rfl)); simp only [Act.put, List.setIfInBounds_toArray, List.set_cons_zero, List.set_cons_succ])
              (refine pl_take (d := 41) (v := ?_) rfl rfl rfl ?_ ?_; rotate_left; (focus ((intro w' hb0 hw'; go_simp) <;> with_reducible rfl)); simp only [Act.put, List.setIfInBounds_toArray, List.set_cons_zero, List.set_cons_succ])
              (refine pl_take (d := 42) (v := ?_) rfl rfl rfl ?_ ?_; rotate_left; (focus ((intro w' hb0 hw'; have x0 : w'.cell? ⟨b1, p1 + i * 20, none⟩ = some (.int .u64 x.id) := (f0.later hw').get 0 (by simp [Ses.cells]); go_simp) <;> with_reducible rfl)); simp only [Act.put, List.setIfInBounds_toArray, List.set_cons_zero, List.set_cons_succ])
              refine pl_one rfl rfl (fun K hK => ?_)
              go_simp
              refine (in33 busy x.id W0 ob _ cb (HU.out.below hb2)).mono ?_
              rintro r W1 ⟨rfl, hbk⟩
              rw [HIN.out]
              refine hK _ _ (hbk : Rel none W0 W1) ?_
              clear hK
              replace hb2 := below_step hb2 hbk; replace f0 := f0.later hbk
              replace g0 := g0.later hbk
              clear hbk
              (refine pl_take (d := 44) (v := ?_) rfl rfl rfl ?_ ?_; rotate_left; (focus ((intro w' hb0 hw'; go_simp) <;> with_reducible rfl)); simp only [Act.put, List.setIfInBounds_toArray, List.set_cons_zero, List.set_cons_succ])
              (refine pl_take (d := 45) (v := ?_) rfl rfl rfl ?_ ?_; rotate_left; (focus ((intro w' hb0 hw'; go_simp) <;> with_reducible rfl)); simp only [Act.put, List.setIfInBounds_toArray, List.set_cons_zero, List.set_cons_succ])
              (refine pl_take (d := 46) (v := ?_) rfl rfl rfl ?_ ?_; rotate_left; (focus ((intro w' hb0 hw'; go_simp) <;> with_reducible rfl)); simp only [Act.put, List.setIfInBounds_toArray, List.set_cons_zero, List.set_cons_succ])
              (refine pl_take (d := 47) (v := ?_) rfl rfl rfl ?_ ?_; rotate_left; (focus ((intro w' hb0 hw'; go_simp) <;> with_reducible rfl)); simp only [Act.put, List.setIfInBounds_toArray, List.set_cons_zero, List.set_cons_succ])
              refine pl_take (d := 48) (v := .bool false) rfl rfl rfl ?_ ?_
              · intro w' hb0 hw'
                have hh := G3.out
                go_simp
                (try omega)
              simp only [Act.put, List.setIfInBounds_toArray, List.set_cons_zero, List.set_cons_succ]
              (refine pl_take (d := 49) (v := ?_) rfl rfl rfl ?_ ?_; rotate_left; (focus ((intro w' hb0 hw'; go_simp) <;> with_reducible rfl)); simp only [Act.put, List.setIfInBounds_toArray, List.set_cons_zero, List.set_cons_succ])
              (refine pl_take (d := 50) (v := ?_) rfl rfl rfl ?_ ?_; rotate_left; (focus ((intro w' hb0 hw'; go_simp) <;> with_reducible rfl)); simp only [Act.put, List.setIfInBounds_toArray, List.set_cons_zero, List.set_cons_succ])
              (refine pl_take (d := 51) (v := ?_) rfl rfl rfl ?_ ?_; rotate_left; (focus ((intro w' hb0 hw'; go_simp) <;> with_reducible rfl)); simp only [Act.put, List.setIfInBounds_toArray, List.set_cons_zero, List.set_cons_succ])
              (refine pl_take (d := 52) (v := ?_) rfl rfl rfl ?_ ?_; rotate_left; (focus ((intro w' hb0 hw'; go_simp) <;> with_reducible rfl)); simp only [Act.put, List.setIfInBounds_toArray, List.set_cons_zero, List.set_cons_succ])
              (refine pl_take (d := 53) (v := ?_) rfl rfl rfl ?_ ?_; rotate_left; (focus ((intro w' hb0 hw'; go_simp) <;> with_reducible rfl)); simp only [Act.put, List.setIfInBounds_toArray, List.set_cons_zero, List.set_cons_succ])
              (refine pl_take (d := 54) (v := ?_) rfl rfl rfl ?_ ?_; rotate_left; (focus ((intro w' hb0 hw'; have x19 : w'.cell? ⟨b1, p1 + i * 20 + 19, none⟩ = some (.int .i64 x.used) := (f0.later hw').get 19 (by simp [Ses.cells]); go_simp) <;> with_reducible rfl)); simp only [Act.put, List.setIfInBounds_toArray, List.set_cons_zero, List.set_cons_succ])
              (refine pl_take (d := 55) (v := ?_) rfl rfl rfl ?_ ?_; rotate_left; (focus ((intro w' hb0 hw'; go_simp) <;> with_reducible rfl)); simp only [Act.put, List.setIfInBounds_toArray, List.set_cons_zero, List.set_cons_succ])
              (refine pl_take (d := 56) (v := ?_) rfl rfl rfl ?_ ?_; rotate_left; (focus ((intro w' hb0 hw'; go_simp) <;> with_reducible rfl)); simp only [Act.put, List.setIfInBounds_toArray, List.set_cons_zero, List.set_cons_succ])
              (refine pl_take (d := 57) (v := ?_) rfl rfl rfl ?_ ?_; rotate_left; (focus ((intro w' hb0 hw'; go_simp) <;> with_reducible rfl)); simp only [Act.put, List.setIfInBounds_toArray, List.set_cons_zero, List.set_cons_succ])
              (refine pl_take (d := 58) (v := ?_) rfl rfl rfl ?_ ?_; rotate_left; (focus ((intro w' hb0 hw'; go_simp) <;> with_reducible rfl)); simp only [Act.put, List.setIfInBounds_toArray, List.set_cons_zero, List.set_cons_succ])
              (refine pl_take (d := 59) (v := ?_) rfl rfl rfl ?_ ?_; rotate_left; (focus ((intro w' hb0 hw'; have y19 : w'.cell? ⟨b1, p1 + b * 20 + 19, none⟩ = some (.int .i64 y.used) := (g0.later hw').get 19 (by simp [Ses.cells]); go_simp) <;> with_reducible rfl)); simp only [Act.put, List.setIfInBounds_toArray, List.set_cons_zero, List.set_cons_succ])
              refine pl_take (d := 60) (v := .bool false) rfl rfl rfl ?_ ?_
              · intro w' hb0 hw'
                have hh := G4.out
                go_simp
                (try omega)
              simp only [Act.put, List.setIfInBounds_toArray, List.set_cons_zero, List.set_cons_succ]
              (refine pl_take (d := 61) (v := ?_) rfl rfl rfl ?_ ?_; rotate_left; (focus ((intro w' hb0 hw'; go_simp) <;> with_reducible rfl)); simp only [Act.put, List.setIfInBounds_toArray, List.set_cons_zero, List.set_cons_succ])
              (refine pl_take (d := 62) (v := ?_) rfl rfl rfl ?_ ?_; rotate_left; (focus ((intro w' hb0 hw'; go_simp) <;> with_reducible rfl)); simp only [Act.put, List.setIfInBounds_toArray, List.set_cons_zero, List.set_cons_succ])
              refine pl_end ?_
              clear f0 g0
              have HB2 := Lib.hid hb2
              clear hb2
              go_wp2_with fail
              refine ⟨?_, ?_⟩
              · exact ⟨m + 1, by omega, by rw [HI.out], HT.out, HB2⟩
              · (simp [intOf]) <;> omega
    · obtain rfl : m = l.length := by omega
      have hneg : (l.length : Int) - 1 - (l.length : Int) = -1 := by omega
      rw [hneg]
      replace HX := Lib.hid (HX.out.later hB.out); replace H := Lib.hid (H.out.below hB.out); replace HB := Lib.hid (below_step HB.out hB.out)
      clear hB HU hneg
      obtain ⟨w2, rfl⟩ : ∃ q, q = wr := ⟨_, rfl⟩
      clear hm hlt
      obtain ⟨q, hq⟩ : ∃ q, bestN l busy l.length = q := ⟨_, rfl⟩
      have HQ : Hid (∀ b, q = some b → b < l.length) := fun b e => best_lt l busy l.length b (Nat.le_refl _) (hq.trans e)
      rw [hq] at HR0 ⊢
      clear hq
      cases q with
      | none =>
        simp only [optI]
        go_wp2
        refine bodyPost_ret (v := .tuple #[.slice oa l.length c, .int .i64 27]) (by simp [results, Try.results11, go_sem]) rfl ?_
        rw [HR0.out]
        exact ⟨_, rfl, ⟨_, _, rfl, H.out⟩, HB.out⟩
      | some i =>
      have hil := HQ.out i rfl
      have hi0 : ¬ (i : Int) < 0 := by omega
      obtain ⟨D, hD⟩ : ∃ D, l.eraseIdx i = D := ⟨_, rfl⟩
      have HDR : Hid (dropD l (i : Int) = D) := by show _ = _; unfold dropD; rw [if_pos (by omega), ← hD]; simp
      have HR : Hid (addD l busy s = (D ++ [s], 0)) := by show _ = _; rw [HR0.out, ← hD]
      have HDL : Hid (D.length ≤ 900) := by
        show _ ≤ _
        have := HL.out
        rw [← hD, List.length_eraseIdx]
        split <;> omega
      clear HR0 HQ hil hD
      simp only [optI]
      go_wp2_with fail
      refine wp_region_plan (some w2.heap.size) [] [] (.take 0 (.take 1 (.take 3 (.two 2 (.one 4 (.one 5 (.take 6 (.take 7 .done)))) 4 (.one 2 (.one 5 (.take 6 (.take 7 .done)))))))) (by kernel_rfl) (by kernel_rfl) (fun _ _ dd _ _ h => by cases dd <;> exact h) ?_
      intro W0 hW0
      have hbW : Below w2.heap.size w2 W0 := by rw [hW0]; exact below_drew w2
      have hn : w2.heap.size ≤ W0.heap.size := hbW.size
      clear hW0
      have HL2 := H
      generalize W0 = Wz at *
      (refine pl_take (d := 67) (v := ?_) rfl rfl rfl ?_ ?_; rotate_left; (focus ((intro w' hb0 hw'; go_simp) <;> with_reducible rfl)); simp only [Act.put, List.setIfInBounds_toArray, List.set_cons_zero, List.set_cons_succ])
      (refine pl_take (d := 68) (v := ?_) rfl rfl rfl ?_ ?_; rotate_left; (focus ((intro w' hb0 hw'; go_simp) <;> with_reducible rfl)); simp only [Act.put, List.setIfInBounds_toArray, List.set_cons_zero, List.set_cons_succ])
      refine pl_take (d := 70) (v := .agg s.cells.toArray) rfl rfl rfl ?_ ?_
      · intro w' hb0 hw'
        exact run_load_blk rfl (HX.out.later (hbW.trans hb0)) (by rfl) row30
      simp only [Act.put, List.setIfInBounds_toArray, List.set_cons_zero, List.set_cons_succ]
      refine pl_two rfl rfl rfl rfl (fun K hK => ?_) (fun K hK => ?_)
      · go_simp
        refine (refDrop25 l (i : Int) Wz oa _ c (HL2.out.below hbW) HL.out).mono ?_
        rintro r Wv ⟨va, rfl, hA0, hbk0⟩
        have hbk : Below w2.heap.size Wz Wv := hbk0.mono hn
        refine hK _ _ hbk ?_
        clear hK
        (try replace hN := hN.later hbk0)
        have hA := hA0.mono hn
        rw [HDR.out] at hA
        replace hbW := hbW.trans hbk
        replace hn := Nat.le_trans hn hbk0.size
        clear hbk hbk0 hA0
        generalize Wv = Wz at *
        refine pl_one rfl rfl (fun K hK => ?_)
        have hlc := cells_20 s
        go_simp
        rw [fold_ses s]
        clear hlc
        have hbk : Below Wz.heap.size Wz (Wz.alloc (.cells s.cells.toArray 30)) := (Below.refl _ _).alloc (Nat.le_refl _) _
        refine hK _ _ (hbk.mono hn : Below w2.heap.size Wz (Wz.alloc (.cells s.cells.toArray 30))) ?_
        clear hK
        have hN0 : Blk (Wz.alloc (.cells s.cells.toArray 30)) Wz.heap.size s.cells := Blk.new' rfl
        (try have hne : be ≠ Wz.heap.size := by have := (hE.row.lt be rfl).2; omega)
        (try replace hN := hN.later hbk); (try replace hE := hE.later hbk); (try replace hA := hA.later hbk)
        replace hbW := hbW.trans (hbk.mono hn)
        replace hn : w2.heap.size ≤ (Wz.alloc (.cells s.cells.toArray 30)).heap.size := Nat.le_trans hn hbk.size
        obtain ⟨bn, hbn⟩ : ∃ b, Wz.heap.size = b := ⟨_, rfl⟩
        rw [hbn] at hN0 ⊢
        (try rw [hbn] at hne)
        have hN := hN0
        clear hbk hbn hN0
        generalize Wz.alloc (.cells s.cells.toArray 30) = Wz at *
        refine pl_one rfl rfl (fun K hK => ?_)
        have hl9 := HL.out
        refine wp_app el22 (by rfl) (by rfl) hA (by rfl) (m := 1) rfl hN.cells (ses_one s) (by have := HDL.out; simp [maxLen]; omega) (by have := HDL.out; omega) hn ?_
        intro vb Wv hB0 hg
        have hbk : Below w2.heap.size Wz Wv := hA.below hg (Below.refl _ _) (Nat.le_refl _) hn
        refine hK _ _ hbk ?_
        clear hK
        replace hbW := hbW.trans hbk
        clear hbk hg hN hA hl9
        generalize Wv = Wz at *
        (refine pl_take (d := 6) (v := ?_) rfl rfl rfl ?_ ?_; rotate_left; (focus ((intro w' hb0 hw'; go_simp) <;> with_reducible rfl)); simp only [Act.put, List.setIfInBounds_toArray, List.set_cons_zero, List.set_cons_succ])
        (refine pl_take (d := 7) (v := ?_) rfl rfl rfl ?_ ?_; rotate_left; (focus ((intro w' hb0 hw'; go_simp) <;> with_reducible rfl)); simp only [Act.put, List.setIfInBounds_toArray, List.set_cons_zero, List.set_cons_succ])
        refine pl_end ?_
        have HB0 := Lib.hid hB0; have HBW := Lib.hid (below_step HB.out hbW)
        clear hB0 hbW hn
        go_wp2
        refine bodyPost_ret (v := .tuple #[vb, .int .i64 0]) (by simp [results, Try.results11, go_sem]) rfl ?_
        rw [HR.out]
        refine ⟨_, rfl, ?_, HBW.out⟩
        exact (Own.rws (l := D ++ [s]) (by simpa using HB0.out) (by simp))
      · have hlc := cells_20 s
        go_simp
        rw [fold_ses s]
        clear hlc
        have hbk : Below Wz.heap.size Wz (Wz.alloc (.cells s.cells.toArray 30)) := (Below.refl _ _).alloc (Nat.le_refl _) _
        refine hK _ _ (hbk.mono hn : Below w2.heap.size Wz (Wz.alloc (.cells s.cells.toArray 30))) ?_
        clear hK
        have hN0 : Blk (Wz.alloc (.cells s.cells.toArray 30)) Wz.heap.size s.cells := Blk.new' rfl
        (try have hne : be ≠ Wz.heap.size := by have := (hE.row.lt be rfl).2; omega)
        (try replace hN := hN.later hbk); (try replace hE := hE.later hbk); (try replace hA := hA.later hbk)
        replace hbW := hbW.trans (hbk.mono hn)
        replace hn : w2.heap.size ≤ (Wz.alloc (.cells s.cells.toArray 30)).heap.size := Nat.le_trans hn hbk.size
        obtain ⟨bn, hbn⟩ : ∃ b, Wz.heap.size = b := ⟨_, rfl⟩
        rw [hbn] at hN0 ⊢
        (try rw [hbn] at hne)
        have hN := hN0
        clear hbk hbn hN0
        generalize Wz.alloc (.cells s.cells.toArray 30) = Wz at *
        refine pl_one rfl rfl (fun K hK => ?_)
        go_simp
        refine (refDrop25 l (i : Int) Wz oa _ c (HL2.out.below hbW) HL.out).mono ?_
        rintro r Wv ⟨va, rfl, hA0, hbk0⟩
        have hbk : Below w2.heap.size Wz Wv := hbk0.mono hn
        refine hK _ _ hbk ?_
        clear hK
        (try replace hN := hN.later hbk0)
        have hA := hA0.mono hn
        rw [HDR.out] at hA
        replace hbW := hbW.trans hbk
        replace hn := Nat.le_trans hn hbk0.size
        clear hbk hbk0 hA0
        generalize Wv = Wz at *
        refine pl_one rfl rfl (fun K hK => ?_)
        have hl9 := HL.out
        refine wp_app el22 (by rfl) (by rfl) hA (by rfl) (m := 1) rfl hN.cells (ses_one s) (by have := HDL.out; simp [maxLen]; omega) (by have := HDL.out; omega) hn ?_
        intro vb Wv hB0 hg
        have hbk : Below w2.heap.size Wz Wv := hA.below hg (Below.refl _ _) (Nat.le_refl _) hn
        refine hK _ _ hbk ?_
        clear hK
        replace hbW := hbW.trans hbk
        clear hbk hg hN hA hl9
        generalize Wv = Wz at *
        (refine pl_take (d := 6) (v := ?_) rfl rfl rfl ?_ ?_; rotate_left; (focus ((intro w' hb0 hw'; go_simp) <;> with_reducible rfl)); simp only [Act.put, List.setIfInBounds_toArray, List.set_cons_zero, List.set_cons_succ])
        (refine pl_take (d := 7) (v := ?_) rfl rfl rfl ?_ ?_; rotate_left; (focus ((intro w' hb0 hw'; go_simp) <;> with_reducible rfl)); simp only [Act.put, List.setIfInBounds_toArray, List.set_cons_zero, List.set_cons_succ])
        refine pl_end ?_
        have HB0 := Lib.hid hB0; have HBW := Lib.hid (below_step HB.out hbW)
        clear hB0 hbW hn
        go_wp2
        refine bodyPost_ret (v := .tuple #[vb, .int .i64 0]) (by simp [results, Try.results11, go_sem]) rfl ?_
        rw [HR.out]
        refine ⟨_, rfl, ?_, HBW.out⟩
        exact (Own.rws (l := D ++ [s]) (by simpa using HB0.out) (by simp))
end Go.Proofs.Ytmfglppgpjplfaa
