/-
  The laws' walks: whom a node knows, and whether all are apart, is as the document has it.
-/
import Derived.Test.YthdkgcmoagookaaWp
namespace Go.Proofs.Ythdkgcmoagookaa
open Go.RowKit Go.Proofs.Ythdkgcmoagookaa.Plan Go.Proofs.Ythdkgcmoagookaa.Eager
set_option maxHeartbeats 4000000
set_option maxRecDepth 20000
set_option linter.unusedVariables false
set_option linter.unusedSimpArgs false

def PeersR (w : World) (A : List Pe) (e : Ending) (w' : World) : Prop := ∃ o c, e = .returned (.slice o A.length c) ∧ RPe w' o A.length c A ∧ Below w.heap.size w w'
theorem Peers.read {w : World} {A : List Pe} {e : Ending} {w' : World} (h : Peers w A e w') : PeersR w A e w' := by
  obtain ⟨v, rfl, hO, hb⟩ := h
  obtain ⟨o, c, rfl, hR⟩ := hO.rws rfl
  exact ⟨o, c, rfl, hR, hb⟩
theorem all15r (nd : Nd) (w : World) (hn : nd.Good w) (hf : nd.Few) : Calls Try.prog 15 #[.agg nd.cells.toArray] w fun r w' => PeersR w (allD nd) r w' := (all15 nd w hn hf).mono fun _ _ h => h.read
theorem refAll16r (nd : Nd) (w : World) (hn : nd.Good w) (hf : nd.Few) : Calls Try.prog 16 #[.agg nd.cells.toArray] w fun r w' => PeersR w (allD nd) r w' := (refAll16 nd w hn hf).mono fun _ _ h => h.read
theorem bad17r (nd : Nd) (iss : List En) (w : World) (oa : Option Addr) (m c : Nat) (hn : nd.Good w) (hf : nd.Few) (hi : REn w oa m c iss) :
    Calls Try.prog 17 #[.agg nd.cells.toArray, .slice oa m c] w fun r w' => PeersR w (badD nd iss) r w' := (bad17 nd iss w oa m c hn hf hi).mono fun _ _ h => h.read
theorem refBad13r (nd : Nd) (iss : List En) (w : World) (oa : Option Addr) (m c : Nat) (hn : nd.Good w) (hf : nd.Few) (hi : REn w oa m c iss) :
    Calls Try.prog 13 #[.agg nd.cells.toArray, .slice oa m c] w fun r w' => PeersR w (badD nd iss) r w' := (refBad13 nd iss w oa m c hn hf hi).mono fun _ _ h => h.read
theorem same14s (a : List Pe) (w : World) (o1 o2 : Option Addr) (n1 n2 c1 c2 : Nat) (h1 : RPe w o1 n1 c1 a) (h2 : RPe w o2 n2 c2 a) :
    Calls Try.prog 14 #[.slice o1 n1 c1, .slice o2 n2 c2] w fun r w' => r = .returned (.bool true) ∧ Below w.heap.size w w' := by
  refine (same14 a a w o1 o2 n1 n2 c1 c2 h1 h2).mono ?_
  rintro r w' ⟨rfl, hb⟩
  exact ⟨by rw [decide_eq_true rfl], hb⟩
theorem known9k (nd : Nd) (iss : List En) (w : World) (oa : Option Addr) (m c : Nat) (hn : nd.Good w) (hf : nd.Few) (hi : REn w oa m c iss) :
    Calls Try.prog 9 #[.agg nd.cells.toArray, .slice oa m c] w fun r w' => r = .returned (.bool (((badD nd iss).length : Int) == 0)) ∧ Below w.heap.size w w' := by
  refine (known9 nd iss w oa m c hn hf hi).mono ?_
  rintro r w' ⟨rfl, hb⟩
  refine ⟨?_, hb⟩
  cases badD nd iss with
  | nil => rfl
  | cons a l =>
    have : (((a :: l).length : Int) == 0) = false := by simp; omega
    rw [this]; rfl

theorem auditTells4 (nd : Nd) (iss : List En) (w : World) (oa : Option Addr) (m c : Nat) (hg : nd.Good w) (hi : REn w oa m c iss) :
    Calls Try.prog 4 #[.agg nd.cells.toArray, .slice oa m c] w fun r w' => r = .returned (.bool true) ∧ Below w.heap.size w w' := by
  obtain rfl : m = iss.length := hi.rows.len
  have hal : Below w.heap.size w (w.alloc (.cells nd.cells.toArray 41)) := (Below.refl _ _).alloc (Nat.le_refl _) _
  have HX : Hid (Blk (w.alloc (.cells nd.cells.toArray 41)) w.heap.size nd.cells) := Blk.new' rfl
  have HG := Lib.hid (hg.below hal); have HI := Lib.hid (hi.below hal); have HB := Lib.hid hal
  clear hg hi hal
  go_enter Try.func4, Try.ntmps4
  go_wp2_with (refine stop_load (ty := 41) rfl ?_)
  refine ⟨wpList_load_blk rfl rfl HX.out (by rfl) row41 ?_⟩
  go_wp2_with fail
  refine (great12 nd _ HG.out).mono ?_
  rintro r w2 ⟨⟨b, rfl, hbl⟩, hb⟩
  replace HX := Lib.hid (HX.out.later hb); replace HG := Lib.hid (HG.out.below hb); replace HI := Lib.hid (HI.out.below hb); replace HB := Lib.hid (below_step HB.out hb)
  have HBL := Lib.hid hbl
  clear hb hbl
  cases b with
  | true =>
    go_wp2_with fail
    refine (works6 _).mono ?_
    rintro r w3 ⟨rfl, hb⟩
    replace HB := Lib.hid (below_step HB.out hb)
    clear hb
    go_wp2
    refine bodyPost_ret (v := .bool true) (by simp [results, Try.results4, go_sem]) rfl ⟨rfl, HB.out⟩
  | false =>
  have HS := Lib.hid (HBL.out rfl)
  clear HBL
  go_wp2_with fail
  refine (great8 iss _ oa _ c HI.out).mono ?_
  rintro r w3 ⟨⟨b, rfl, hbl⟩, hb⟩
  replace HX := Lib.hid (HX.out.later hb); replace HG := Lib.hid (HG.out.below hb); replace HI := Lib.hid (HI.out.below hb); replace HB := Lib.hid (below_step HB.out hb)
  clear hb hbl
  cases b with
  | true =>
    go_wp2_with fail
    refine (works6 _).mono ?_
    rintro r w4 ⟨rfl, hb⟩
    replace HB := Lib.hid (below_step HB.out hb)
    clear hb
    go_wp2
    refine bodyPost_ret (v := .bool true) (by simp [results, Try.results4, go_sem]) rfl ⟨rfl, HB.out⟩
  | false =>
  go_wp2_with (refine stop_load (ty := 41) rfl ?_)
  refine ⟨wpList_load_blk rfl rfl HX.out (by rfl) row41 ?_⟩
  go_wp2_with fail
  refine (refBad13r nd iss w3 oa _ c HG.out HS.out HI.out).mono ?_
  rintro r w4 ⟨o0, c0, rfl, hR, hb⟩
  have HR := Lib.hid hR
  replace HX := Lib.hid (HX.out.later hb); replace HG := Lib.hid (HG.out.below hb); replace HI := Lib.hid (HI.out.below hb); replace HB := Lib.hid (below_step HB.out hb)
  clear hb hR
  go_wp2_with fail
  refine wp_region_plan (some w4.heap.size) [] [] (.take 0 (.take 2 (.one 1 (.one 3 (.one 4 (.take 5 (.take 6 (.take 7 (.take 9 (.one 8 (.one 10 (.take 11 (.take 12 (.take 13 (.take 14 (.take 16 (.take 17 (.take 18 (.one 15 (.take 19 (.take 20 (.take 21 (.take 22 (.take 23 (.take 25 (.take 26 (.one 24 (.one 27 (.take 28 (.take 29 (.take 30 (.one 31 (.take 32 (.take 33 .done)))))))))))))))))))))))))))))))))) (by kernel_rfl) (by kernel_rfl) (fun _ _ dd _ _ h => by cases dd <;> exact h) ?_
  intro W0 hW0
  have hbW : Below w4.heap.size w4 W0 := by rw [hW0]; exact below_drew w4
  have hn : w4.heap.size ≤ W0.heap.size := hbW.size
  clear hW0
  have HG2 := HG
  have HI2 := HI
  have HR2 := HR
  generalize W0 = Wz at *
  refine pl_take (d := 16) (v := .agg nd.cells.toArray) rfl rfl rfl ?_ ?_
  · intro w' hb0 hw'
    exact run_load_blk rfl (HX.out.later (hbW.trans hw')) (by rfl) row41
  simp only [Act.put, List.setIfInBounds_toArray, List.set_cons_zero, List.set_cons_succ]
  refine pl_take (d := 18) (v := .agg nd.cells.toArray) rfl rfl rfl ?_ ?_
  · intro w' hb0 hw'
    exact run_load_blk rfl (HX.out.later (hbW.trans hw')) (by rfl) row41
  simp only [Act.put, List.setIfInBounds_toArray, List.set_cons_zero, List.set_cons_succ]
  refine pl_one rfl rfl (fun K hK => ?_)
  go_simp
  refine (all15r nd Wz (HG2.out.below hbW) HS.out).mono ?_
  rintro r Wv ⟨o1, c1, rfl, hR1, hbk0⟩
  have hbk : Below w4.heap.size Wz Wv := hbk0.mono hn
  refine hK _ _ hbk ?_
  clear hK
  replace hbW := hbW.trans hbk
  replace hn := Nat.le_trans hn hbk0.size
  clear hbk hbk0
  generalize Wv = Wz at *
  refine pl_one rfl rfl (fun K hK => ?_)
  go_simp
  refine (refAll16r nd Wz (HG2.out.below hbW) HS.out).mono ?_
  rintro r Wv ⟨o2, c2, rfl, hR2, hbk0⟩
  have hbk : Below w4.heap.size Wz Wv := hbk0.mono hn
  refine hK _ _ hbk ?_
  clear hK
  replace hbW := hbW.trans hbk
  replace hn := Nat.le_trans hn hbk0.size
  replace hR1 := hR1.below hbk0
  clear hbk hbk0
  generalize Wv = Wz at *
  refine pl_one rfl rfl (fun K hK => ?_)
  go_simp
  refine (same14s _ Wz o1 o2 _ _ c1 c2 hR1 hR2).mono ?_
  rintro r Wv ⟨rfl, hbk0⟩
  have hbk : Below w4.heap.size Wz Wv := hbk0.mono hn
  refine hK _ _ hbk ?_
  clear hK
  replace hbW := hbW.trans hbk
  replace hn := Nat.le_trans hn hbk0.size
  clear hR1 hR2
  clear hbk hbk0
  generalize Wv = Wz at *
  (refine pl_take (d := 21) (v := ?_) rfl rfl rfl ?_ ?_; rotate_left; (focus ((intro w' hb0 hw'; go_simp) <;> with_reducible rfl)); simp only [Act.put, List.setIfInBounds_toArray, List.set_cons_zero, List.set_cons_succ])
  refine pl_take (d := 22) (v := .agg nd.cells.toArray) rfl rfl rfl ?_ ?_
  · intro w' hb0 hw'
    exact run_load_blk rfl (HX.out.later (hbW.trans hw')) (by rfl) row41
  simp only [Act.put, List.setIfInBounds_toArray, List.set_cons_zero, List.set_cons_succ]
  (refine pl_take (d := 23) (v := ?_) rfl rfl rfl ?_ ?_; rotate_left; (focus ((intro w' hb0 hw'; go_simp) <;> with_reducible rfl)); simp only [Act.put, List.setIfInBounds_toArray, List.set_cons_zero, List.set_cons_succ])
  (refine pl_take (d := 25) (v := ?_) rfl rfl rfl ?_ ?_; rotate_left; (focus ((intro w' hb0 hw'; go_simp) <;> with_reducible rfl)); simp only [Act.put, List.setIfInBounds_toArray, List.set_cons_zero, List.set_cons_succ])
  refine pl_one rfl rfl (fun K hK => ?_)
  go_simp
  refine (bad17r nd iss Wz oa _ c (HG2.out.below hbW) HS.out (HI2.out.below hbW)).mono ?_
  rintro r Wv ⟨o3, c3, rfl, hR3, hbk0⟩
  have hbk : Below w4.heap.size Wz Wv := hbk0.mono hn
  refine hK _ _ hbk ?_
  clear hK
  replace hbW := hbW.trans hbk
  replace hn := Nat.le_trans hn hbk0.size
  clear hbk hbk0
  generalize Wv = Wz at *
  refine pl_one rfl rfl (fun K hK => ?_)
  go_simp
  refine (same14s _ Wz o3 o0 _ _ c3 c0 hR3 (HR2.out.below hbW)).mono ?_
  rintro r Wv ⟨rfl, hbk0⟩
  have hbk : Below w4.heap.size Wz Wv := hbk0.mono hn
  refine hK _ _ hbk ?_
  clear hK
  replace hbW := hbW.trans hbk
  replace hn := Nat.le_trans hn hbk0.size
  clear hR3
  clear hbk hbk0
  generalize Wv = Wz at *
  refine pl_take (d := 27) (v := .bool true) rfl rfl rfl ?_ ?_
  · intro w' hb0 hw'
    go_simp
  simp only [Act.put, List.setIfInBounds_toArray, List.set_cons_zero, List.set_cons_succ]
  refine pl_take (d := 28) (v := .bool true) rfl rfl rfl ?_ ?_
  · intro w' hb0 hw'
    go_simp
  simp only [Act.put, List.setIfInBounds_toArray, List.set_cons_zero, List.set_cons_succ]
  refine pl_take (d := 29) (v := .agg nd.cells.toArray) rfl rfl rfl ?_ ?_
  · intro w' hb0 hw'
    exact run_load_blk rfl (HX.out.later (hbW.trans hw')) (by rfl) row41
  simp only [Act.put, List.setIfInBounds_toArray, List.set_cons_zero, List.set_cons_succ]
  (refine pl_take (d := 30) (v := ?_) rfl rfl rfl ?_ ?_; rotate_left; (focus ((intro w' hb0 hw'; go_simp) <;> with_reducible rfl)); simp only [Act.put, List.setIfInBounds_toArray, List.set_cons_zero, List.set_cons_succ])
  (refine pl_take (d := 32) (v := ?_) rfl rfl rfl ?_ ?_; rotate_left; (focus ((intro w' hb0 hw'; go_simp) <;> with_reducible rfl)); simp only [Act.put, List.setIfInBounds_toArray, List.set_cons_zero, List.set_cons_succ])
  (refine pl_take (d := 33) (v := ?_) rfl rfl rfl ?_ ?_; rotate_left; (focus ((intro w' hb0 hw'; go_simp) <;> with_reducible rfl)); simp only [Act.put, List.setIfInBounds_toArray, List.set_cons_zero, List.set_cons_succ])
  (refine pl_take (d := 34) (v := ?_) rfl rfl rfl ?_ ?_; rotate_left; (focus ((intro w' hb0 hw'; go_simp) <;> with_reducible rfl)); simp only [Act.put, List.setIfInBounds_toArray, List.set_cons_zero, List.set_cons_succ])
  refine pl_one rfl rfl (fun K hK => ?_)
  go_simp
  refine (known9k nd iss Wz oa _ c (HG2.out.below hbW) HS.out (HI2.out.below hbW)).mono ?_
  rintro r Wv ⟨rfl, hbk0⟩
  have hbk : Below w4.heap.size Wz Wv := hbk0.mono hn
  refine hK _ _ hbk ?_
  clear hK
  replace hbW := hbW.trans hbk
  replace hn := Nat.le_trans hn hbk0.size
  clear hbk hbk0
  generalize Wv = Wz at *
  refine pl_take (d := 35) (v := .bool true) rfl rfl rfl ?_ ?_
  · intro w' hb0 hw'
    go_simp
  simp only [Act.put, List.setIfInBounds_toArray, List.set_cons_zero, List.set_cons_succ]
  refine pl_take (d := 36) (v := .bool true) rfl rfl rfl ?_ ?_
  · intro w' hb0 hw'
    go_simp
  simp only [Act.put, List.setIfInBounds_toArray, List.set_cons_zero, List.set_cons_succ]
  refine pl_take (d := 37) (v := .bool true) rfl rfl rfl ?_ ?_
  · intro w' hb0 hw'
    go_simp
  simp only [Act.put, List.setIfInBounds_toArray, List.set_cons_zero, List.set_cons_succ]
  refine pl_take (d := 38) (v := .agg nd.cells.toArray) rfl rfl rfl ?_ ?_
  · intro w' hb0 hw'
    exact run_load_blk rfl (HX.out.later (hbW.trans hw')) (by rfl) row41
  simp only [Act.put, List.setIfInBounds_toArray, List.set_cons_zero, List.set_cons_succ]
  (refine pl_take (d := 39) (v := ?_) rfl rfl rfl ?_ ?_; rotate_left; (focus ((intro w' hb0 hw'; go_simp) <;> with_reducible rfl)); simp only [Act.put, List.setIfInBounds_toArray, List.set_cons_zero, List.set_cons_succ])
  refine pl_take (d := 41) (v := .agg nd.cells.toArray) rfl rfl rfl ?_ ?_
  · intro w' hb0 hw'
    exact run_load_blk rfl (HX.out.later (hbW.trans hw')) (by rfl) row41
  simp only [Act.put, List.setIfInBounds_toArray, List.set_cons_zero, List.set_cons_succ]
  (refine pl_take (d := 42) (v := ?_) rfl rfl rfl ?_ ?_; rotate_left; (focus ((intro w' hb0 hw'; go_simp) <;> with_reducible rfl)); simp only [Act.put, List.setIfInBounds_toArray, List.set_cons_zero, List.set_cons_succ])
  refine pl_one rfl rfl (fun K hK => ?_)
  go_simp
  refine (sess18 nd iss Wz oa _ c (HG2.out.below hbW) (HI2.out.below hbW)).mono ?_
  rintro r Wv ⟨rfl, hbk0⟩
  have hbk : Below w4.heap.size Wz Wv := hbk0.mono hn
  refine hK _ _ hbk ?_
  clear hK
  replace hbW := hbW.trans hbk
  replace hn := Nat.le_trans hn hbk0.size
  clear hbk hbk0
  generalize Wv = Wz at *
  refine pl_one rfl rfl (fun K hK => ?_)
  go_simp
  refine (refSess19 nd iss Wz oa _ c (HG2.out.below hbW) (HI2.out.below hbW)).mono ?_
  rintro r Wv ⟨rfl, hbk0⟩
  have hbk : Below w4.heap.size Wz Wv := hbk0.mono hn
  refine hK _ _ hbk ?_
  clear hK
  replace hbW := hbW.trans hbk
  replace hn := Nat.le_trans hn hbk0.size
  clear hbk hbk0
  generalize Wv = Wz at *
  refine pl_take (d := 44) (v := .bool true) rfl rfl rfl ?_ ?_
  · intro w' hb0 hw'
    go_simp
  simp only [Act.put, List.setIfInBounds_toArray, List.set_cons_zero, List.set_cons_succ]
  refine pl_take (d := 45) (v := .bool true) rfl rfl rfl ?_ ?_
  · intro w' hb0 hw'
    go_simp
  simp only [Act.put, List.setIfInBounds_toArray, List.set_cons_zero, List.set_cons_succ]
  refine pl_take (d := 46) (v := .bool true) rfl rfl rfl ?_ ?_
  · intro w' hb0 hw'
    go_simp
  simp only [Act.put, List.setIfInBounds_toArray, List.set_cons_zero, List.set_cons_succ]
  refine pl_one rfl rfl (fun K hK => ?_)
  go_simp
  refine (works6 Wz).mono ?_
  rintro r Wv ⟨rfl, hbk0⟩
  have hbk : Below w4.heap.size Wz Wv := hbk0.mono hn
  refine hK _ _ hbk ?_
  clear hK
  replace hbW := hbW.trans hbk
  replace hn := Nat.le_trans hn hbk0.size
  clear hbk hbk0
  generalize Wv = Wz at *
  refine pl_take (d := 48) (v := .bool true) rfl rfl rfl ?_ ?_
  · intro w' hb0 hw'
    go_simp
  simp only [Act.put, List.setIfInBounds_toArray, List.set_cons_zero, List.set_cons_succ]
  (refine pl_take (d := 4) (v := ?_) rfl rfl rfl ?_ ?_; rotate_left; (focus ((intro w' hb0 hw'; go_simp) <;> with_reducible rfl)); simp only [Act.put, List.setIfInBounds_toArray, List.set_cons_zero, List.set_cons_succ])
  refine pl_end ?_
  have HBW := Lib.hid (below_step HB.out hbW)
  clear hbW
  go_wp2
  refine bodyPost_ret (v := .bool true) (by simp [results, Try.results4, go_sem]) rfl ⟨rfl, HBW.out⟩

theorem auditApart5 (l : List Nd) (w : World) (oa : Option Addr) (n c : Nat) (h : RNd w oa n c l) (hI : ∀ p ∈ l, ∀ q ∈ knownD p, q.ent.id < 18446744073709551616) :
    Calls Try.prog 5 #[.slice oa n c] w fun r w' => r = .returned (.bool true) ∧ Below w.heap.size w w' := by
  obtain rfl : n = l.length := h.rows.rows.len
  have H := Lib.hid h; have HID := Lib.hid hI
  clear h hI
  go_enter Try.func5, Try.ntmps5
  go_wp2_with fail
  refine (great7 l w oa _ c H.out).mono ?_
  rintro r w1 ⟨⟨b, rfl, hq⟩, hb⟩
  have HB := Lib.hid hb
  replace H := Lib.hid (H.out.below hb)
  have HQ := Lib.hid hq
  clear hb hq
  cases b with
  | true =>
    go_wp2
    refine bodyPost_ret (v := .bool true) (by simp [results, Try.results5, go_sem]) rfl ⟨rfl, HB.out⟩
  | false =>
  have HS := Lib.hid (HQ.out rfl)
  clear HQ
  go_wp2_with fail
  refine (apart11 l w1 oa _ c H.out HS.out.2 HID.out HS.out.1).mono ?_
  rintro r w2 ⟨rfl, hb⟩
  replace HB := Lib.hid (below_step HB.out hb)
  replace H := Lib.hid (H.out.below hb)
  clear hb
  go_wp2_with fail
  refine (refApart20 l w2 oa _ c H.out HS.out.2 HS.out.1).mono ?_
  rintro r w3 ⟨rfl, hb⟩
  replace HB := Lib.hid (below_step HB.out hb)
  replace H := Lib.hid (H.out.below hb)
  clear hb
  cases apartD l
  · go_wp2_with fail
    refine (works6 _).mono ?_
    rintro r w4 ⟨rfl, hb⟩
    replace HB := Lib.hid (below_step HB.out hb)
    clear hb
    go_wp2
    refine bodyPost_ret (v := .bool true) (by simp [results, Try.results5, go_sem]) rfl ⟨rfl, HB.out⟩
  · go_wp2_with fail
    refine (works6 _).mono ?_
    rintro r w4 ⟨rfl, hb⟩
    replace HB := Lib.hid (below_step HB.out hb)
    clear hb
    go_wp2
    refine bodyPost_ret (v := .bool true) (by simp [results, Try.results5, go_sem]) rfl ⟨rfl, HB.out⟩
end Go.Proofs.Ythdkgcmoagookaa
