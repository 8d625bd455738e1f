/-
  Walks: one more request, the code's and the document's.
-/
import Derived.Test.YtmbakknpnilooaaWf
namespace Go.Proofs.Ytmbakknpnilooaa
open Go.RowKit Go.Proofs.Ytmbakknpnilooaa.Plan Go.Proofs.Ytmbakknpnilooaa.Eager
set_option maxHeartbeats 4000000
set_option maxRecDepth 20000
set_option linter.unusedVariables false
set_option linter.unusedSimpArgs false

def addC (l : List PC) (p : PC) : List PC × Int := if 32 ≤ l.length then (l, 27) else (l ++ [p], 0)
def AddOut (w : World) (r : List PC × Int) (e : Ending) (w' : World) : Prop :=
  ∃ oa n c Q, e = .returned (.tuple #[.slice oa n c, .int .i64 r.2]) ∧ RPd w' oa n c Q ∧ Q.map Pd.c = r.1 ∧ Below w.heap.size w w'
theorem refAdd10 (l : List Pd) (p : Pd) (w : World) (oa : Option Addr) (n c : Nat) (h : RPd w oa n c l) (hp : p.m.Good w) (hl : l.length ≤ 900) :
    Calls Try.prog 10 #[.slice oa n c, .agg p.cells.toArray] w (AddOut w (addC (l.map Pd.c) p.c)) := by
  obtain rfl : n = l.length := h.rows.rows.len
  have hal : Below w.heap.size w (w.alloc (.cells p.cells.toArray 32)) := (Below.refl _ _).alloc (Nat.le_refl _) _
  have HX : Hid (Blk (w.alloc (.cells p.cells.toArray 32)) w.heap.size p.cells) := Blk.new' rfl
  have H := Lib.hid (h.below hal); have HGP := Lib.hid (hp.below hal); have HB := Lib.hid hal; have HL := Lib.hid hl
  clear h hp hal hl
  by_cases h32 : 32 ≤ l.length
  · have h32' : ¬ (l.length : Int) ≤ 31 := by omega
    have h32'' : (31 : Int) < (l.length : Int) := by omega
    have HR : Hid (addC (l.map Pd.c) p.c = (l.map Pd.c, 27)) := by show _ = _; unfold addC; rw [if_pos (by simpa using h32)]
    clear h32
    go_enter Try.func10, Try.ntmps10
    go_wp2
    refine bodyPost_ret (v := .tuple #[.slice oa l.length c, .int .i64 27]) (by simp [results, Try.results10, go_sem]) rfl ?_
    rw [HR.out]
    exact ⟨_, _, _, l, rfl, H.out, rfl, HB.out⟩
  · have h32' : ¬ (31 : Int) < (l.length : Int) := by omega
    have HR : Hid (addC (l.map Pd.c) p.c = ((l ++ [p]).map Pd.c, 0)) := by show _ = _; unfold addC; rw [if_neg (by simpa using h32)]; simp
    clear h32
    go_enter Try.func10, Try.ntmps10
    go_wp2_with fail
    clear h32'
    generalize w.alloc (.cells p.cells.toArray 32) = w2 at *
    refine wp_region_plan (some w2.heap.size) [] [] (.take 1 (.take 3 (.two 0 (.two 2 (.one 4 (.one 5 (.take 6 (.take 7 .done)))) 4 (.one 2 (.one 5 (.take 6 (.take 7 .done))))) 4 (.one 0 (.one 2 (.one 5 (.take 6 (.take 7 .done)))))))) (by kernel_rfl) (by kernel_rfl) (fun _ _ dd _ _ h => by cases dd <;> exact h) ?_
    intro W0 hW0
    have hbW : Below w2.heap.size w2 W0 := by rw [hW0]; exact below_drew w2
    have hn : w2.heap.size ≤ W0.heap.size := hbW.size
    clear hW0
    have HL2 := H
    generalize W0 = Wz at *
    (refine pl_take (d := 11) (v := ?_) rfl rfl rfl ?_ ?_; rotate_left; (focus ((intro w' hb0 hw'; go_simp) <;> with_reducible rfl)); simp only [Act.put, List.setIfInBounds_toArray, List.set_cons_zero, List.set_cons_succ])
    refine pl_take (d := 13) (v := .agg p.cells.toArray) rfl rfl rfl ?_ ?_
    · intro w' hb0 hw'
      exact run_load_blk rfl (HX.out.later (hbW.trans hb0)) (by rfl) row32
    simp only [Act.put, List.setIfInBounds_toArray, List.set_cons_zero, List.set_cons_succ]
    refine pl_two rfl rfl rfl rfl (fun K hK => ?_) (fun K hK => ?_)
    · go_simp
      have hbk : Below Wz.heap.size Wz (Wz.alloc (.cells ([] : List Value).toArray 32)) := (Below.refl _ _).alloc (Nat.le_refl _) _
      refine hK _ _ (hbk.mono hn : Below w2.heap.size Wz (Wz.alloc (.cells ([] : List Value).toArray 32))) ?_
      clear hK
      have hE0 : Own (Wz.alloc (.cells ([] : List Value).toArray 32)) w2.heap.size 32 23 (.slice (some ⟨Wz.heap.size, 0, none⟩) 0 0) 0 [] := Own.lit Wz [] 32 23 0 (by simp) rfl w2.heap.size hn
      (try have hne : Wz.heap.size ≠ bn := by have := hN.lt; omega)
      (try replace hN := hN.later hbk); (try replace hE := hE.later hbk); (try replace hA := hA.later hbk)
      replace hbW := hbW.trans (hbk.mono hn)
      replace hn : w2.heap.size ≤ (Wz.alloc (.cells ([] : List Value).toArray 32)).heap.size := Nat.le_trans hn hbk.size
      obtain ⟨be, hbe⟩ : ∃ b, Wz.heap.size = b := ⟨_, rfl⟩
      rw [hbe] at hE0 ⊢
      (try rw [hbe] at hne)
      have hE := hE0
      clear hbk hbe hE0
      generalize Wz.alloc (.cells ([] : List Value).toArray 32) = Wz at *
      refine pl_two rfl rfl rfl rfl (fun K hK => ?_) (fun K hK => ?_)
      · have hl9 := HL.out
        refine wp_app el22 (by rfl) (by rfl) hE (by rfl) (m := l.length) (by rw [pd_len]) (HL2.out.below hbW).rows.rows.cells (flat_one pd_one l) (by simp [maxLen]; omega) (by omega) hn ?_
        intro va Wv hA0 hg
        have hbk : Below w2.heap.size Wz Wv := hE.below hg (Below.refl _ _) (Nat.le_refl _) hn
        refine hK _ _ hbk ?_
        clear hK
        (try replace hN := hN.grown hg (by intro e; apply hne; simpa [Value.ownBlock] using e))
        have hA : Own Wv w2.heap.size 32 23 va l.length (l.flatMap Pd.cells) := by simpa using hA0
        replace hbW := hbW.trans hbk
        replace hn := Nat.le_trans hn hg.size
        clear hbk hg hA0 hE hl9
        generalize Wv = Wz at *
        refine pl_one rfl rfl (fun K hK => ?_)
        have hlc := cells_23 p
        go_simp
        rw [fold_pd p]
        clear hlc
        have hbk : Below Wz.heap.size Wz (Wz.alloc (.cells p.cells.toArray 32)) := (Below.refl _ _).alloc (Nat.le_refl _) _
        refine hK _ _ (hbk.mono hn : Below w2.heap.size Wz (Wz.alloc (.cells p.cells.toArray 32))) ?_
        clear hK
        have hN0 : Blk (Wz.alloc (.cells p.cells.toArray 32)) Wz.heap.size p.cells := Blk.new' rfl
        (try have hne : be ≠ Wz.heap.size := by have := (hE.row.lt be rfl).2; omega)
        (try replace hN := hN.later hbk); (try replace hE := hE.later hbk); (try replace hA := hA.later hbk)
        replace hbW := hbW.trans (hbk.mono hn)
        replace hn : w2.heap.size ≤ (Wz.alloc (.cells p.cells.toArray 32)).heap.size := Nat.le_trans hn hbk.size
        obtain ⟨bn, hbn⟩ : ∃ b, Wz.heap.size = b := ⟨_, rfl⟩
        rw [hbn] at hN0 ⊢
        (try rw [hbn] at hne)
        have hN := hN0
        clear hbk hbn hN0
        generalize Wz.alloc (.cells p.cells.toArray 32) = Wz at *
        refine pl_one rfl rfl (fun K hK => ?_)
        have hl9 := HL.out
        refine wp_app el22 (by rfl) (by rfl) hA (by rfl) (m := 1) rfl hN.cells (pd_one p) (by simp [maxLen]; omega) (by omega) hn ?_
        intro vb Wv hB0 hg
        have hbk : Below w2.heap.size Wz Wv := hA.below hg (Below.refl _ _) (Nat.le_refl _) hn
        refine hK _ _ hbk ?_
        clear hK
        replace hbW := hbW.trans hbk
        clear hbk hg hN hA hl9
        generalize Wv = Wz at *
        (refine pl_take (d := 4) (v := ?_) rfl rfl rfl ?_ ?_; rotate_left; (focus ((intro w' hb0 hw'; go_simp) <;> with_reducible rfl)); simp only [Act.put, List.setIfInBounds_toArray, List.set_cons_zero, List.set_cons_succ])
        (refine pl_take (d := 5) (v := ?_) rfl rfl rfl ?_ ?_; rotate_left; (focus ((intro w' hb0 hw'; go_simp) <;> with_reducible rfl)); simp only [Act.put, List.setIfInBounds_toArray, List.set_cons_zero, List.set_cons_succ])
        refine pl_end ?_
        have HB0 := Lib.hid hB0; have HBW := Lib.hid hbW
        clear hB0 hbW hn
        go_wp2
        obtain ⟨o', c', rfl, hR⟩ := Own.rws (l := l ++ [p]) (by simpa using HB0.out) (by simp)
        refine bodyPost_ret (v := .tuple #[.slice o' (l ++ [p]).length c', .int .i64 0]) (by simp [results, Try.results10, go_sem]) rfl ?_
        rw [HR.out]
        refine ⟨_, _, _, l ++ [p], rfl, ⟨hR, fun q hq => ?_⟩, by simp, below_step HB.out HBW.out⟩
        rcases List.mem_append.1 hq with h | h
        · exact (H.out.good q h).below HBW.out
        · rw [List.mem_singleton.1 h]; exact HGP.out.below HBW.out
      · have hlc := cells_23 p
        go_simp
        rw [fold_pd p]
        clear hlc
        have hbk : Below Wz.heap.size Wz (Wz.alloc (.cells p.cells.toArray 32)) := (Below.refl _ _).alloc (Nat.le_refl _) _
        refine hK _ _ (hbk.mono hn : Below w2.heap.size Wz (Wz.alloc (.cells p.cells.toArray 32))) ?_
        clear hK
        have hN0 : Blk (Wz.alloc (.cells p.cells.toArray 32)) Wz.heap.size p.cells := Blk.new' rfl
        (try have hne : be ≠ Wz.heap.size := by have := (hE.row.lt be rfl).2; omega)
        (try replace hN := hN.later hbk); (try replace hE := hE.later hbk); (try replace hA := hA.later hbk)
        replace hbW := hbW.trans (hbk.mono hn)
        replace hn : w2.heap.size ≤ (Wz.alloc (.cells p.cells.toArray 32)).heap.size := Nat.le_trans hn hbk.size
        obtain ⟨bn, hbn⟩ : ∃ b, Wz.heap.size = b := ⟨_, rfl⟩
        rw [hbn] at hN0 ⊢
        (try rw [hbn] at hne)
        have hN := hN0
        clear hbk hbn hN0
        generalize Wz.alloc (.cells p.cells.toArray 32) = Wz at *
        refine pl_one rfl rfl (fun K hK => ?_)
        have hl9 := HL.out
        refine wp_app el22 (by rfl) (by rfl) hE (by rfl) (m := l.length) (by rw [pd_len]) (HL2.out.below hbW).rows.rows.cells (flat_one pd_one l) (by simp [maxLen]; omega) (by omega) hn ?_
        intro va Wv hA0 hg
        have hbk : Below w2.heap.size Wz Wv := hE.below hg (Below.refl _ _) (Nat.le_refl _) hn
        refine hK _ _ hbk ?_
        clear hK
        (try replace hN := hN.grown hg (by intro e; apply hne; simpa [Value.ownBlock] using e))
        have hA : Own Wv w2.heap.size 32 23 va l.length (l.flatMap Pd.cells) := by simpa using hA0
        replace hbW := hbW.trans hbk
        replace hn := Nat.le_trans hn hg.size
        clear hbk hg hA0 hE hl9
        generalize Wv = Wz at *
        refine pl_one rfl rfl (fun K hK => ?_)
        have hl9 := HL.out
        refine wp_app el22 (by rfl) (by rfl) hA (by rfl) (m := 1) rfl hN.cells (pd_one p) (by simp [maxLen]; omega) (by omega) hn ?_
        intro vb Wv hB0 hg
        have hbk : Below w2.heap.size Wz Wv := hA.below hg (Below.refl _ _) (Nat.le_refl _) hn
        refine hK _ _ hbk ?_
        clear hK
        replace hbW := hbW.trans hbk
        clear hbk hg hN hA hl9
        generalize Wv = Wz at *
        (refine pl_take (d := 4) (v := ?_) rfl rfl rfl ?_ ?_; rotate_left; (focus ((intro w' hb0 hw'; go_simp) <;> with_reducible rfl)); simp only [Act.put, List.setIfInBounds_toArray, List.set_cons_zero, List.set_cons_succ])
        (refine pl_take (d := 5) (v := ?_) rfl rfl rfl ?_ ?_; rotate_left; (focus ((intro w' hb0 hw'; go_simp) <;> with_reducible rfl)); simp only [Act.put, List.setIfInBounds_toArray, List.set_cons_zero, List.set_cons_succ])
        refine pl_end ?_
        have HB0 := Lib.hid hB0; have HBW := Lib.hid hbW
        clear hB0 hbW hn
        go_wp2
        obtain ⟨o', c', rfl, hR⟩ := Own.rws (l := l ++ [p]) (by simpa using HB0.out) (by simp)
        refine bodyPost_ret (v := .tuple #[.slice o' (l ++ [p]).length c', .int .i64 0]) (by simp [results, Try.results10, go_sem]) rfl ?_
        rw [HR.out]
        refine ⟨_, _, _, l ++ [p], rfl, ⟨hR, fun q hq => ?_⟩, by simp, below_step HB.out HBW.out⟩
        rcases List.mem_append.1 hq with h | h
        · exact (H.out.good q h).below HBW.out
        · rw [List.mem_singleton.1 h]; exact HGP.out.below HBW.out
    · have hlc := cells_23 p
      go_simp
      rw [fold_pd p]
      clear hlc
      have hbk : Below Wz.heap.size Wz (Wz.alloc (.cells p.cells.toArray 32)) := (Below.refl _ _).alloc (Nat.le_refl _) _
      refine hK _ _ (hbk.mono hn : Below w2.heap.size Wz (Wz.alloc (.cells p.cells.toArray 32))) ?_
      clear hK
      have hN0 : Blk (Wz.alloc (.cells p.cells.toArray 32)) Wz.heap.size p.cells := Blk.new' rfl
      (try have hne : be ≠ Wz.heap.size := by have := (hE.row.lt be rfl).2; omega)
      (try replace hN := hN.later hbk); (try replace hE := hE.later hbk); (try replace hA := hA.later hbk)
      replace hbW := hbW.trans (hbk.mono hn)
      replace hn : w2.heap.size ≤ (Wz.alloc (.cells p.cells.toArray 32)).heap.size := Nat.le_trans hn hbk.size
      obtain ⟨bn, hbn⟩ : ∃ b, Wz.heap.size = b := ⟨_, rfl⟩
      rw [hbn] at hN0 ⊢
      (try rw [hbn] at hne)
      have hN := hN0
      clear hbk hbn hN0
      generalize Wz.alloc (.cells p.cells.toArray 32) = Wz at *
      refine pl_one rfl rfl (fun K hK => ?_)
      go_simp
      have hbk : Below Wz.heap.size Wz (Wz.alloc (.cells ([] : List Value).toArray 32)) := (Below.refl _ _).alloc (Nat.le_refl _) _
      refine hK _ _ (hbk.mono hn : Below w2.heap.size Wz (Wz.alloc (.cells ([] : List Value).toArray 32))) ?_
      clear hK
      have hE0 : Own (Wz.alloc (.cells ([] : List Value).toArray 32)) w2.heap.size 32 23 (.slice (some ⟨Wz.heap.size, 0, none⟩) 0 0) 0 [] := Own.lit Wz [] 32 23 0 (by simp) rfl w2.heap.size hn
      (try have hne : Wz.heap.size ≠ bn := by have := hN.lt; omega)
      (try replace hN := hN.later hbk); (try replace hE := hE.later hbk); (try replace hA := hA.later hbk)
      replace hbW := hbW.trans (hbk.mono hn)
      replace hn : w2.heap.size ≤ (Wz.alloc (.cells ([] : List Value).toArray 32)).heap.size := Nat.le_trans hn hbk.size
      obtain ⟨be, hbe⟩ : ∃ b, Wz.heap.size = b := ⟨_, rfl⟩
      rw [hbe] at hE0 ⊢
      (try rw [hbe] at hne)
      have hE := hE0
      clear hbk hbe hE0
      generalize Wz.alloc (.cells ([] : List Value).toArray 32) = Wz at *
      refine pl_one rfl rfl (fun K hK => ?_)
      have hl9 := HL.out
      refine wp_app el22 (by rfl) (by rfl) hE (by rfl) (m := l.length) (by rw [pd_len]) (HL2.out.below hbW).rows.rows.cells (flat_one pd_one l) (by simp [maxLen]; omega) (by omega) hn ?_
      intro va Wv hA0 hg
      have hbk : Below w2.heap.size Wz Wv := hE.below hg (Below.refl _ _) (Nat.le_refl _) hn
      refine hK _ _ hbk ?_
      clear hK
      (try replace hN := hN.grown hg (by intro e; apply hne; simpa [Value.ownBlock] using e))
      have hA : Own Wv w2.heap.size 32 23 va l.length (l.flatMap Pd.cells) := by simpa using hA0
      replace hbW := hbW.trans hbk
      replace hn := Nat.le_trans hn hg.size
      clear hbk hg hA0 hE hl9
      generalize Wv = Wz at *
      refine pl_one rfl rfl (fun K hK => ?_)
      have hl9 := HL.out
      refine wp_app el22 (by rfl) (by rfl) hA (by rfl) (m := 1) rfl hN.cells (pd_one p) (by simp [maxLen]; omega) (by omega) hn ?_
      intro vb Wv hB0 hg
      have hbk : Below w2.heap.size Wz Wv := hA.below hg (Below.refl _ _) (Nat.le_refl _) hn
      refine hK _ _ hbk ?_
      clear hK
      replace hbW := hbW.trans hbk
      clear hbk hg hN hA hl9
      generalize Wv = Wz at *
      (refine pl_take (d := 4) (v := ?_) rfl rfl rfl ?_ ?_; rotate_left; (focus ((intro w' hb0 hw'; go_simp) <;> with_reducible rfl)); simp only [Act.put, List.setIfInBounds_toArray, List.set_cons_zero, List.set_cons_succ])
      (refine pl_take (d := 5) (v := ?_) rfl rfl rfl ?_ ?_; rotate_left; (focus ((intro w' hb0 hw'; go_simp) <;> with_reducible rfl)); simp only [Act.put, List.setIfInBounds_toArray, List.set_cons_zero, List.set_cons_succ])
      refine pl_end ?_
      have HB0 := Lib.hid hB0; have HBW := Lib.hid hbW
      clear hB0 hbW hn
      go_wp2
      obtain ⟨o', c', rfl, hR⟩ := Own.rws (l := l ++ [p]) (by simpa using HB0.out) (by simp)
      refine bodyPost_ret (v := .tuple #[.slice o' (l ++ [p]).length c', .int .i64 0]) (by simp [results, Try.results10, go_sem]) rfl ?_
      rw [HR.out]
      refine ⟨_, _, _, l ++ [p], rfl, ⟨hR, fun q hq => ?_⟩, by simp, below_step HB.out HBW.out⟩
      rcases List.mem_append.1 hq with h | h
      · exact (H.out.good q h).below HBW.out
      · rw [List.mem_singleton.1 h]; exact HGP.out.below HBW.out
theorem Mg.Good.off_own {w w' : World} {m : Mg} {row : Option Nat} (h : m.Good w) (ho : m.Off row) (hg : w.grownBy w' row) : m.Good w' := h.grown ho hg
theorem off_own {w : World} {base n : Nat} {v : Value} {xs : List Value} (hO : Own w base 32 23 v n xs) {m : Mg} {B : Nat} (hge : m.Ge B) (hB : w.heap.size ≤ B) : m.Off v.ownBlock :=
  ⟨fun a e h2 => by have := (hO.row.lt a.block h2).2; have := hge.es a e; omega, fun a e h2 => by have := (hO.row.lt a.block h2).2; have := hge.its a e; omega⟩
/-- copied requests in a row of the call's own -/
structure OwnPd (base : Nat) (v : Value) (Q : List Pd) (w : World) : Prop where
  own : Own w base 32 23 v Q.length (Q.flatMap Pd.cells)
  good : ∀ p ∈ Q, p.m.Good w
  off : ∀ p ∈ Q, p.m.Off v.ownBlock
  ge : ∀ p ∈ Q, p.m.Ge base
theorem OwnPd.later {base : Nat} {v : Value} {Q : List Pd} {w w' : World} (h : OwnPd base v Q w) (hb : Below w.heap.size w w') : OwnPd base v Q w' := ⟨h.own.later hb, fun p hp => (h.good p hp).below hb, h.off, h.ge⟩
theorem OwnPd.grown {base b : Nat} {v : Value} {Q : List Pd} {w w' : World} (h : OwnPd base v Q w) (hg : w.grownBy w' (some b)) (hb : b < base) : OwnPd base v Q w' :=
  ⟨h.own.grown hg (fun b' e e2 => by cases e2; have := (h.own.row.lt b e).1; omega), fun p hp => (h.good p hp).grown ((h.ge p hp).off hb) hg, h.off, h.ge⟩
theorem OwnPd.rpd {base : Nat} {v : Value} {Q : List Pd} {w : World} (h : OwnPd base v Q w) : ∃ oa c, v = .slice oa Q.length c ∧ RPd w oa Q.length c Q := by
  obtain ⟨oa, c, rfl, hR⟩ := Own.rws h.own rfl
  exact ⟨oa, c, rfl, hR, h.good⟩
theorem CopyOk.ownPd {w w' : World} {l Q : List Pd} {v : Value} (h : CopyOk w l v Q w') : OwnPd w.heap.size v Q w' := ⟨h.own, h.good, h.off, h.ge⟩
theorem with_cells (p : Pd) (m : Mg) : p.cells.take 12 ++ m.cells ++ p.cells.drop (12 + m.cells.length) = (p.with m).cells := rfl
theorem add9 (l : List Pd) (p : Pd) (w : World) (oa : Option Addr) (n c : Nat) (h : RPd w oa n c l) (hp : p.m.Good w) (hps : p.m.small) (hl : l.length ≤ 900) (hs : ∀ p ∈ l, p.m.small) :
    Calls Try.prog 9 #[.slice oa n c, .agg p.cells.toArray] w (AddOut w (addC (l.map Pd.c) p.c)) := by
  obtain rfl : n = l.length := h.rows.rows.len
  have hal : Below w.heap.size w (w.alloc (.cells p.cells.toArray 32)) := (Below.refl _ _).alloc (Nat.le_refl _) _
  have HX : Hid (Own (w.alloc (.cells p.cells.toArray 32)) w.heap.size 32 23 (.slice (some ⟨w.heap.size, 0, none⟩) 1 1) 1 p.cells) := Own.lit w p.cells 32 23 1 (by simp [maxLen]) rfl _ (Nat.le_refl _)
  have H := Lib.hid (h.below hal); have HGP := Lib.hid (hp.below hal); have HB := Lib.hid hal; have HL := Lib.hid hl; have HS := Lib.hid hs; have HPS := Lib.hid hps
  clear h hp hal hl hs hps
  go_enter Try.func9, Try.ntmps9
  go_wp2_with fail
  refine (copy8 l _ oa _ c H.out HL.out HS.out).mono ?_
  rintro r w1 ⟨v, Q, rfl, hC, hb⟩
  have hO : OwnPd (w.heap.size + 1) v Q w1 := by simpa using hC.ownPd
  have HQC : Hid (Q.map Pd.c = l.map Pd.c) := hC.c
  have HQL : Hid (Q.length = l.length) := hC.len
  have HO := Lib.hid hO
  replace HX := Lib.hid (HX.out.later hb); replace HGP := Lib.hid (HGP.out.below hb); replace HB := Lib.hid (below_step HB.out hb)
  clear hb hO hC H HS
  by_cases h32 : 32 ≤ l.length
  · have h32' : (32 : Int) ≤ (l.length : Int) := by omega
    have HR : Hid (addC (l.map Pd.c) p.c = (Q.map Pd.c, 27)) := by show _ = _; unfold addC; rw [if_pos (by simpa using h32), HQC.out]
    clear h32
    obtain ⟨o', c', rfl, hR⟩ := HO.out.rpd
    have HRP := Lib.hid hR
    clear hR
    go_wp2
    refine bodyPost_ret (v := .tuple #[.slice o' Q.length c', .int .i64 27]) (by simp [results, Try.results9, go_sem]) rfl ?_
    rw [HR.out]
    exact ⟨_, _, _, Q, rfl, HRP.out, rfl, HB.out⟩
  · have h32' : ¬ (32 : Int) ≤ (l.length : Int) := by omega
    obtain ⟨g0, c0, e0, _, _, _, hB0⟩ := HX.out.blk (by omega)
    cases e0
    have HA := Lib.hid hB0.at_
    clear hB0
    go_wp2_with (refine stop_load (ty := 30) rfl ?_)
    refine ⟨wpList_load_at rfl rfl HA.out.mg (by rfl) row30 ?_⟩
    go_wp2_with fail
    refine (msgCopy31 p.m w1 HGP.out HPS.out).mono ?_
    rintro r w2 ⟨m', rfl, hM, hb⟩
    have HR : Hid (addC (l.map Pd.c) p.c = ((Q ++ [p.with m']).map Pd.c, 0)) := by
      show _ = _; unfold addC; rw [if_neg (by simpa using h32), List.map_append, HQC.out]
      simp [with_c p m' hM.c]
    have HM : Hid (m'.Good w2 ∧ m'.Ge (w.heap.size + 1) ∧ m'.Off v.ownBlock) := ⟨hM.good, hM.ge.mono (Nat.succ_le_of_lt (HX.out.row.lt w.heap.size rfl).2), off_own HO.out.own hM.ge (Nat.le_refl _)⟩
    replace HX := Lib.hid (HX.out.later hb); replace HO := Lib.hid (HO.out.later hb); replace HB := Lib.hid (below_step HB.out hb)
    clear hb hM HA h32
    go_wp2_with (refine stop_store (ty := 30) rfl ?_)
    refine ⟨wpList_store_own rfl rfl HX.out (o := 12) (by rfl) (vs := m'.cells) (by rfl) row30 (by rw [cells_23, cells_11]; omega) (mg_one m') ?_⟩
    intro W3 hO1 hg
    rw [with_cells] at hO1
    have hb3 := HX.out.below hg HB.out (Nat.le_refl _) HB.out.size
    have HO3 := Lib.hid (HO.out.grown hg (Nat.lt_succ_self _))
    have HM3 : Hid (m'.Good W3 ∧ m'.Ge (w.heap.size + 1) ∧ m'.Off v.ownBlock) := ⟨HM.out.1.grown (HM.out.2.1.off (Nat.lt_succ_self _)) hg, HM.out.2⟩
    obtain ⟨g1, c1, e1, _, _, _, hB1⟩ := hO1.blk (by omega)
    cases e1
    have HX3 := Lib.hid hO1; have HB3 := Lib.hid hb3; have HP3 := Lib.hid hB1
    clear hO1 hb3 hg hB1 HO HM HX HB
    generalize hpp : p.with m' = p' at *
    have HE3 : Hid (p'.m = m') := by show _ = _; rw [← hpp]; rfl
    clear hpp
    have hal : Below W3.heap.size W3 (W3.alloc (.cells p'.cells.toArray 32)) := (Below.refl _ _).alloc (Nat.le_refl _) _
    have HN := Lib.hid (Blk.new' (w := W3) (cs := p'.cells) (e := 32) (b := W3.heap.size) rfl)
    have HO4 := Lib.hid (HO3.out.later hal); have HB4 := Lib.hid (below_step HB3.out hal); have HM4 : Hid (m'.Good (W3.alloc (.cells p'.cells.toArray 32)) ∧ m'.Ge (w.heap.size + 1) ∧ m'.Off v.ownBlock) := ⟨HM3.out.1.below hal, HM3.out.2⟩
    have HSZ : Hid (w.heap.size + 1 ≤ (W3.alloc (.cells p'.cells.toArray 32)).heap.size) := by show _ ≤ _; have := HP3.out.lt; simp; omega
    clear hal
    go_wp2_with (refine stop_load (ty := 32) rfl ?_)
    refine ⟨wpList_load_blk rfl rfl HP3.out (by rfl) row32 ?_⟩
    have hlc := cells_23 p'
    go_wp2_with (refine stop_append rfl ?_)
    rw [fold_pd p']
    clear hlc
    have hlen := HL.out
    have hql := HQL.out
    refine ⟨wpList_app el22 rfl (by rfl) (by rfl) HO4.out.own (by rfl) (m := 1) rfl HN.out.cells (pd_one p') (by simp [maxLen]; omega) (by omega) HSZ.out ?_⟩
    intro v6 W6 hO6 hg6
    have hb6 := HO4.out.own.below hg6 HB4.out (Nat.le_succ _) HSZ.out
    have hG6 : ∀ q ∈ Q ++ [p'], q.m.Good W6 := by
      intro q hq
      rcases List.mem_append.1 hq with h | h
      · exact (HO4.out.good q h).grown (HO4.out.off q h) hg6
      · rw [List.mem_singleton.1 h, HE3.out]; exact HM4.out.1.grown HM4.out.2.2 hg6
    obtain ⟨o', c', rfl, hR⟩ := Own.rws (l := Q ++ [p']) (by simpa using hO6) (by simp)
    have HRP : Hid (RPd W6 o' (Q ++ [p']).length c' (Q ++ [p'])) := ⟨hR, hG6⟩
    have HB6 := Lib.hid hb6
    clear hO6 hg6 hb6 hG6 hR hlen hql HO4 HO3 HB4 HM4 HM3 HN HP3 HX3 HB3
    go_wp2
    refine bodyPost_ret (v := .tuple #[.slice o' (Q ++ [p']).length c', .int .i64 0]) (by simp [results, Try.results9, go_sem]) rfl ?_
    rw [HR.out]
    exact ⟨_, _, _, Q ++ [p'], rfl, HRP.out, rfl, HB6.out⟩
end Go.Proofs.Ytmbakknpnilooaa
