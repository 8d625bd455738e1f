/-
  The law's walk: whatever is issued besides; where all know issued ones alone, of which no two names have one identifier, all are apart.
-/
import Derived.Test.YthdkgcmoagookaaWp
namespace Go.Proofs.Ythdkgcmoagookaa
open Go.RowKit Go.Proofs.Ythdkgcmoagookaa.Plan Go.Proofs.Ythdkgcmoagookaa.Eager
set_option maxHeartbeats 4000000
set_option maxRecDepth 20000
set_option linter.unusedVariables false
set_option linter.unusedSimpArgs false

theorem own_empty {base : Nat} (w : World) (h : base ≤ w.heap.size) : Own (w.alloc (.cells #[] 29)) base 29 6 (.slice (some ⟨w.heap.size, 0, none⟩) 0 0) 0 [] := by
  refine ⟨rfl, .inr ⟨w.heap.size, 0, #[], rfl, h, ?_, Nat.le_refl _, Nat.zero_le _, rfl, rfl⟩⟩
  rw [heap_alloc_at, if_pos rfl]
def knD (iss : List En) (l : List Nd) (k : Nat) : Bool := (l.take k).all fun nd => decide (badD nd iss = [])
theorem knD_succ (iss : List En) (l : List Nd) (k : Nat) (h : k < l.length) : knD iss l (k + 1) = (knD iss l k && decide (badD l[k] iss = [])) := by
  unfold knD
  rw [List.take_succ_eq_append_getElem h, List.all_append]; simp
theorem knD_all (iss : List En) (l : List Nd) (h : knD iss l l.length = true) : ∀ nd ∈ l, badD nd iss = [] := by
  unfold knD at h
  rw [List.take_length, List.all_eq_true] at h
  exact fun nd hnd => of_decide_eq_true (h nd hnd)
theorem in_of {iss : List En} {e : En} (h : inD iss e = true) : e ∈ iss := by
  obtain ⟨s, hs, he⟩ := List.any_eq_true.1 h
  rw [← of_decide_eq_true he]; exact hs
theorem in_mk {iss : List En} {e : En} (h : e ∈ iss) : inD iss e = true := List.any_eq_true.2 ⟨e, h, decide_eq_true rfl⟩
theorem bad_none {nd : Nd} {iss : List En} (h : badD nd iss = []) : ∀ p ∈ allD nd, holdsD p = true ∧ p.ent ∈ iss := fun p hp => by
  have h1 : badOf iss p ≠ true := List.filter_eq_nil_iff.1 h p hp
  have h2 : badOf iss p = false := by simpa using h1
  unfold badOf at h2
  rw [Bool.or_eq_false_iff] at h2
  exact ⟨by simpa using h2.1, in_of (by simpa using h2.2)⟩
theorem bad_more {nd : Nd} {iss more : List En} (h : badD nd iss = []) : badD nd (more ++ iss) = [] := by
  refine List.filter_eq_nil_iff.2 fun p hp => ?_
  obtain ⟨h1, h2⟩ := bad_none h p hp
  unfold badOf
  rw [h1, in_mk (List.mem_append.2 (.inr h2))]
  simp
theorem alike_comm (a b : En) : alikeD a b = alikeD b a := by
  unfold alikeD
  rw [show decide (a.id = b.id) = decide (b.id = a.id) from decide_eq_decide.2 eq_comm, show decide (a.name = b.name) = decide (b.name = a.name) from decide_eq_decide.2 eq_comm]
theorem alike_self (a : En) : alikeD a a = false := by simp [alikeD]
theorem apart_of {l : List Nd} {iss : List En} (h : ∀ nd ∈ l, badD nd iss = []) (hi : ∀ i (hi : i < iss.length) j (hj : j < i), alikeD iss[i] (iss[j]'(by omega)) = false) : apartD l = true := by
  refine apart_yes _ fun i hp j hq => ?_
  unfold clashD
  obtain ⟨n1, hn1, h1⟩ := List.mem_flatMap.1 (List.getElem_mem hp)
  obtain ⟨n2, hn2, h2⟩ := List.mem_flatMap.1 (List.getElem_mem hq)
  obtain ⟨a, ha, ea⟩ := List.getElem_of_mem (bad_none (h n1 hn1) _ h1).2
  obtain ⟨b, hb, eb⟩ := List.getElem_of_mem (bad_none (h n2 hn2) _ h2).2
  rw [← ea, ← eb]
  rcases Nat.lt_trichotomy a b with hab | hab | hab
  · rw [alike_comm]; exact hi b hb a hab
  · subst hab; exact alike_self _
  · exact hi a ha b hab
theorem known9t (nd : Nd) (iss more : List En) (w : World) (oa : Option Addr) (m c : Nat) (hn : nd.Good w) (hf : nd.Few) (hi : REn w oa m c (more ++ iss)) (hk : badD nd iss = []) :
    Calls Try.prog 9 #[.agg nd.cells.toArray, .slice oa m c] w fun r w' => r = .returned (.bool true) ∧ Below w.heap.size w w' := by
  refine (known9 nd _ w oa m c hn hf hi).mono ?_
  rintro r w' ⟨rfl, hb⟩
  exact ⟨by rw [bad_more hk]; rfl, hb⟩

theorem auditMore3 (l : List Nd) (iss more : List En) (w : World) (oa : Option Addr) (n c : Nat) (ob : Option Addr) (m cb : Nat) (od : Option Addr) (q cd : Nat) (h : RNd w oa n c l) (hI : ∀ p ∈ l, ∀ q ∈ knownD p, q.ent.id < 18446744073709551616)
    (hi : REn w ob m cb iss) (hm : REn w od q cd more) :
    Calls Try.prog 3 #[.slice oa n c, .slice ob m cb, .slice od q cd] w fun r w' => r = .returned (.bool true) ∧ Below w.heap.size w w' := by
  obtain rfl : n = l.length := h.rows.rows.len
  obtain rfl : m = iss.length := hi.rows.len
  obtain rfl : q = more.length := hm.rows.len
  have H := Lib.hid h; have HID := Lib.hid hI; have HI := Lib.hid hi; have HM := Lib.hid hm
  clear h hI hi hm
  go_enter Try.func3, Try.ntmps3
  go_wp2_with fail
  refine (works6 w).mono ?_
  rintro r w1 ⟨rfl, hb⟩
  replace H := Lib.hid (H.out.below hb); replace HI := Lib.hid (HI.out.below hb); replace HM := Lib.hid (HM.out.below hb); have HB := Lib.hid hb
  clear hb
  go_wp2_with fail
  refine (great7 l w1 oa _ c H.out).mono ?_
  rintro r w2 ⟨⟨b, rfl, hq⟩, hb⟩
  replace H := Lib.hid (H.out.below hb); replace HI := Lib.hid (HI.out.below hb); replace HM := Lib.hid (HM.out.below hb); replace HB := Lib.hid (below_step HB.out hb)
  have HQ := Lib.hid hq
  clear hb hq
  cases b with
  | true =>
    go_wp2
    refine bodyPost_ret (v := .bool true) (by simp [results, Try.results3, go_sem]) rfl ⟨rfl, HB.out⟩
  | false =>
  have HS := Lib.hid (HQ.out rfl)
  clear HQ
  go_wp2_with fail
  refine (great8 iss w2 ob _ cb HI.out).mono ?_
  rintro r w3 ⟨⟨b, rfl, hq⟩, hb⟩
  replace H := Lib.hid (H.out.below hb); replace HI := Lib.hid (HI.out.below hb); replace HM := Lib.hid (HM.out.below hb); replace HB := Lib.hid (below_step HB.out hb)
  have HQ := Lib.hid hq
  clear hb hq
  cases b with
  | true =>
    go_wp2
    refine bodyPost_ret (v := .bool true) (by simp [results, Try.results3, go_sem]) rfl ⟨rfl, HB.out⟩
  | false =>
  have HIO := Lib.hid (HQ.out rfl)
  clear HQ
  go_wp2_with fail
  refine (great8 more w3 od _ cd HM.out).mono ?_
  rintro r w4 ⟨⟨b, rfl, hq⟩, hb⟩
  replace H := Lib.hid (H.out.below hb); replace HI := Lib.hid (HI.out.below hb); replace HM := Lib.hid (HM.out.below hb); replace HB := Lib.hid (below_step HB.out hb)
  have HQ := Lib.hid hq
  clear hb hq
  cases b with
  | true =>
    go_wp2
    refine bodyPost_ret (v := .bool true) (by simp [results, Try.results3, go_sem]) rfl ⟨rfl, HB.out⟩
  | false =>
  have HMO := Lib.hid (HQ.out rfl)
  clear HQ
  go_wp2
  go_loopw [7, 25] (fun a i wr => ∃ k : Nat, k ≤ l.length ∧ i = .int .i64 k ∧ a = .bool (knD iss l k) ∧ Hid (Below w4.heap.size w4 wr)) (fun _ i _ => l.length - (intOf i).toNat)
  case atStart => exact ⟨0, by omega, rfl, rfl, Lib.hid (Below.refl _ _)⟩
  case round =>
    obtain ⟨k, hk, rfl, rfl, hC⟩ := hrel
    obtain ⟨ak, hak⟩ : ∃ b, knD iss l k = b := ⟨_, rfl⟩
    rw [hak]
    have HAK := Lib.hid hak
    clear hak
    by_cases hlt : k < l.length
    · have hi1 : (k : Int) < (l.length : Int) := by omega
      have rk : IntKind.i64.wrap ((k : Int) + 1) = ((k + 1 : Nat) : Int) := by
        have h1 := HS.out.1
        rw [IntKind.wrap_i64]; omega
      have hR := H.out.below hC.out
      have hG := hR.good _ (List.getElem_mem hlt)
      have HW := Lib.hid (HS.out.2 _ (List.getElem_mem hlt))
      have HKN := Lib.hid (knD_succ iss l k hlt)
      obtain ⟨b1, p1, rfl, hA⟩ := hR.rows.rows.nd hlt
      obtain ⟨nd, hs⟩ : ∃ s, l[k] = s := ⟨_, rfl⟩
      rw [hs] at hA hG HW HKN
      have HA := Lib.hid hA
      have hZ : Blk (wr.alloc (.cells nd0.cells.toArray 41)) wr.heap.size nd0.cells := Blk.new' rfl
      have hal : Below wr.heap.size wr (wr.alloc (.cells nd0.cells.toArray 41)) := (Below.refl _ _).alloc (Nat.le_refl _) _
      have HZ := Lib.hid hZ; have HAL := Lib.hid hal; have HG := Lib.hid hG
      clear hs hA hR hZ hal hG
      go_wp2_with (refine stop_load (ty := 41) rfl ?_)
      refine ⟨wpList_load_at rfl rfl HA.out (by rfl) row41 ?_⟩
      go_wp2_with (refine stop_store (ty := 41) rfl ?_)
      refine ⟨wpList_store_blk (vs := nd.cells) rfl rfl HZ.out (by rfl) (by rfl) row41 rfl (nd_one _) fun w5 hX hg => ?_⟩
      have hb5 := Below.grownB HAL.out hg (Nat.le_refl _) HAL.out.size
      have HB5 := Lib.hid (below_step hC.out hb5)
      have HX := Lib.hid hX
      replace HG := Lib.hid (HG.out.below hb5)
      clear hb5 hg hX HZ HAL HA hC
      go_wp2_with (refine stop_load (ty := 41) rfl ?_)
      refine ⟨wpList_load_blk rfl rfl HX.out (by rfl) row41 ?_⟩
      go_wp2_with fail
      refine (known9 nd iss w5 ob _ cb HG.out HW.out (HI.out.below HB5.out)).mono ?_
      rintro r w6 ⟨rfl, hb⟩
      have HB6 := Lib.hid (below_step HB5.out hb)
      replace HX := Lib.hid (HX.out.later hb); replace HG := Lib.hid (HG.out.below hb)
      have HI5 := Lib.hid (HI.out.below HB6.out); have HM5 := Lib.hid (HM.out.below HB6.out)
      clear hb HB5
      cases hkb : decide (badD nd iss = [])
      · have HKB := Lib.hid hkb
        clear hkb
        go_wp2_with fail
        refine wp_region_plan (some w6.heap.size) [] [] (.take 0 (.take 1 (.take 2 (.take 4 (.take 6 (.one 3 (.one 5 (.one 7 (.one 8 (.take 9 (.take 10 .done))))))))))) (by kernel_rfl) (by kernel_rfl) (fun _ _ dd _ _ h => by cases dd <;> exact h) ?_
        intro W0 hW0
        have hbW : Below w6.heap.size w6 W0 := by rw [hW0]; exact below_drew w6
        have hn : w6.heap.size ≤ W0.heap.size := hbW.size
        clear hW0
        have HG2 := HG
        have HI2 := HI5
        have HM2 := HM5
        generalize W0 = Wz at *
        (refine pl_take (d := 32) (v := ?_) rfl rfl rfl ?_ ?_; rotate_left; (focus ((intro w' hb0 hw'; go_simp) <;> with_reducible rfl)); simp only [Act.put, List.setIfInBounds_toArray, List.set_cons_zero, List.set_cons_succ])
        (refine pl_take (d := 33) (v := ?_) rfl rfl rfl ?_ ?_; rotate_left; (focus ((intro w' hb0 hw'; go_simp) <;> with_reducible rfl)); simp only [Act.put, List.setIfInBounds_toArray, List.set_cons_zero, List.set_cons_succ])
        (refine pl_skip (d := 34) rfl rfl rfl ?_; simp only [Act.put, List.setIfInBounds_toArray, List.set_cons_zero, List.set_cons_succ])
        (refine pl_skip (d := 36) rfl rfl rfl ?_; simp only [Act.put, List.setIfInBounds_toArray, List.set_cons_zero, List.set_cons_succ])
        (refine pl_skip (d := 38) rfl rfl rfl ?_; simp only [Act.put, List.setIfInBounds_toArray, List.set_cons_zero, List.set_cons_succ])
        (refine pl_skip1 (d := 35) rfl rfl rfl ?_; simp only [Act.put, List.setIfInBounds_toArray, List.set_cons_zero, List.set_cons_succ])
        (refine pl_skip1 (d := 37) rfl rfl rfl ?_; simp only [Act.put, List.setIfInBounds_toArray, List.set_cons_zero, List.set_cons_succ])
        (refine pl_skip1 (d := 39) rfl rfl rfl ?_; simp only [Act.put, List.setIfInBounds_toArray, List.set_cons_zero, List.set_cons_succ])
        (refine pl_skip1 (d := 40) rfl rfl rfl ?_; simp only [Act.put, List.setIfInBounds_toArray, List.set_cons_zero, List.set_cons_succ])
        (refine pl_skip (d := 41) rfl rfl rfl ?_; simp only [Act.put, List.setIfInBounds_toArray, List.set_cons_zero, List.set_cons_succ])
        refine pl_take (d := 42) (v := .bool false) rfl rfl rfl ?_ ?_
        · intro w' hb0 hw'
          go_simp
        simp only [Act.put, List.setIfInBounds_toArray, List.set_cons_zero, List.set_cons_succ]
        refine pl_end ?_
        have HBW : Hid (Below w4.heap.size w4 Wz) := below_step HB6.out hbW
        clear hbW hn
        cases ak
        · go_wp2_with fail
          refine ⟨?_, ?measureFa⟩
          rotate_left
          · (simp [intOf]) <;> omega
          have hfin : ∃ k_1 : Nat, k_1 ≤ l.length ∧ Value.int IntKind.i64 ((k : Int) + 1) = Value.int IntKind.i64 (k_1 : Int) ∧ Value.bool false = Value.bool (knD iss l k_1) ∧ Hid (Below w4.heap.size w4 Wz) := ⟨k + 1, by omega, rfl, by rw [HKN.out, HAK.out, HKB.out]; rfl, HBW⟩
          first | exact hfin | ((repeat apply Exists.intro); exact ⟨hfin, rfl⟩)
        · go_wp2_with fail
          refine ⟨?_, ?measureFb⟩
          rotate_left
          · (simp [intOf]) <;> omega
          have hfin : ∃ k_1 : Nat, k_1 ≤ l.length ∧ Value.int IntKind.i64 ((k : Int) + 1) = Value.int IntKind.i64 (k_1 : Int) ∧ Value.bool false = Value.bool (knD iss l k_1) ∧ Hid (Below w4.heap.size w4 Wz) := ⟨k + 1, by omega, rfl, by rw [HKN.out, HAK.out, HKB.out]; rfl, HBW⟩
          first | exact hfin | ((repeat apply Exists.intro); exact ⟨hfin, rfl⟩)
      · have HKB := Lib.hid hkb
        have HKT : Hid (badD nd iss = []) := Lib.hid (of_decide_eq_true hkb)
        clear hkb
        go_wp2_with fail
        refine wp_region_plan (some w6.heap.size) [] [] (.take 0 (.take 1 (.take 2 (.take 4 (.take 6 (.one 3 (.one 5 (.one 7 (.one 8 (.take 9 (.take 10 .done))))))))))) (by kernel_rfl) (by kernel_rfl) (fun _ _ dd _ _ h => by cases dd <;> exact h) ?_
        intro W0 hW0
        have hbW : Below w6.heap.size w6 W0 := by rw [hW0]; exact below_drew w6
        have hn : w6.heap.size ≤ W0.heap.size := hbW.size
        clear hW0
        have HG2 := HG
        have HI2 := HI5
        have HM2 := HM5
        generalize W0 = Wz at *
        (refine pl_take (d := 32) (v := ?_) rfl rfl rfl ?_ ?_; rotate_left; (focus ((intro w' hb0 hw'; go_simp) <;> with_reducible rfl)); simp only [Act.put, List.setIfInBounds_toArray, List.set_cons_zero, List.set_cons_succ])
        (refine pl_take (d := 33) (v := ?_) rfl rfl rfl ?_ ?_; rotate_left; (focus ((intro w' hb0 hw'; go_simp) <;> with_reducible rfl)); simp only [Act.put, List.setIfInBounds_toArray, List.set_cons_zero, List.set_cons_succ])
        refine pl_take (d := 34) (v := .agg nd.cells.toArray) rfl rfl rfl ?_ ?_
        · intro w' hb0 hw'
          exact run_load_blk rfl (HX.out.later (hbW.trans hw')) (by rfl) row41
        simp only [Act.put, List.setIfInBounds_toArray, List.set_cons_zero, List.set_cons_succ]
        (refine pl_take (d := 36) (v := ?_) rfl rfl rfl ?_ ?_; rotate_left; (focus ((intro w' hb0 hw'; go_simp) <;> with_reducible rfl)); simp only [Act.put, List.setIfInBounds_toArray, List.set_cons_zero, List.set_cons_succ])
        (refine pl_take (d := 38) (v := ?_) rfl rfl rfl ?_ ?_; rotate_left; (focus ((intro w' hb0 hw'; go_simp) <;> with_reducible rfl)); simp only [Act.put, List.setIfInBounds_toArray, List.set_cons_zero, List.set_cons_succ])
        refine pl_one rfl rfl (fun K hK => ?_)
        go_simp
        have hbk : Below Wz.heap.size Wz (Wz.alloc (.cells #[] 29)) := (Below.refl _ _).alloc (Nat.le_refl _) _
        refine hK _ _ (hbk.mono hn : Below w6.heap.size Wz (Wz.alloc (.cells #[] 29))) ?_
        clear hK
        have hE0 : Own (Wz.alloc (.cells #[] 29)) w6.heap.size 29 6 (.slice (some ⟨Wz.heap.size, 0, none⟩) 0 0) 0 [] := own_empty Wz hn
        replace hbW := hbW.trans (hbk.mono hn)
        replace hn : w6.heap.size ≤ (Wz.alloc (.cells #[] 29)).heap.size := Nat.le_trans hn hbk.size
        obtain ⟨be, hbe⟩ : ∃ b, Wz.heap.size = b := ⟨_, rfl⟩
        rw [hbe] at hE0 ⊢
        have hE := hE0
        clear hbk hbe hE0
        generalize (Wz.alloc (.cells #[] 29)) = Wz at *
        refine pl_one rfl rfl (fun K hK => ?_)
        have hl9 := HMO.out
        refine wp_app el23 (by rfl) (by rfl) hE (by rfl) (m := more.length) (by rw [en_len]) (HM2.out.below hbW).rows.cells (flat_one en_one more) (by simp [maxLen]; omega) (by omega) hn ?_
        intro va Wv hA0 hg
        have hbk : Below w6.heap.size Wz Wv := hE.below hg (Below.refl _ _) (Nat.le_refl _) hn
        refine hK _ _ hbk ?_
        clear hK
        have hA : Own Wv w6.heap.size 29 6 va more.length (more.flatMap En.cells) := by simpa using hA0
        replace hbW := hbW.trans hbk
        replace hn := Nat.le_trans hn hg.size
        clear hbk hg hA0 hE hl9
        generalize Wv = Wz at *
        refine pl_one rfl rfl (fun K hK => ?_)
        have hl9 := HMO.out; have hl8 := HIO.out
        refine wp_app el23 (by rfl) (by rfl) hA (by rfl) (m := iss.length) (by rw [en_len]) (HI2.out.below hbW).rows.cells (flat_one en_one iss) (by simp [maxLen]; omega) (by omega) hn ?_
        intro vb Wv hB0 hg
        have hbk : Below w6.heap.size Wz Wv := hA.below hg (Below.refl _ _) (Nat.le_refl _) hn
        refine hK _ _ hbk ?_
        clear hK
        have hC : Own Wv w6.heap.size 29 6 vb (more ++ iss).length ((more ++ iss).flatMap En.cells) := by simpa using hB0
        replace hbW := hbW.trans hbk
        replace hn := Nat.le_trans hn hg.size
        obtain ⟨ov, cv, rfl, hR⟩ := hC.rws rfl
        rw [List.length_append] at hR
        clear hbk hg hB0 hA hC hl9 hl8
        generalize Wv = Wz at *
        refine pl_one rfl rfl (fun K hK => ?_)
        go_simp
        refine (known9t nd iss more Wz ov _ cv (HG2.out.below hbW) HW.out hR HKT.out).mono ?_
        rintro r Wv ⟨rfl, hbk0⟩
        have hbk : Below w6.heap.size Wz Wv := hbk0.mono hn
        refine hK _ _ hbk ?_
        clear hK
        replace hbW := hbW.trans hbk
        replace hn := Nat.le_trans hn hbk0.size
        clear hbk hbk0 hR
        generalize Wv = Wz at *
        refine pl_take (d := 41) (v := .bool false) rfl rfl rfl ?_ ?_
        · intro w' hb0 hw'
          go_simp
        simp only [Act.put, List.setIfInBounds_toArray, List.set_cons_zero, List.set_cons_succ]
        refine pl_take (d := 42) (v := .bool false) rfl rfl rfl ?_ ?_
        · intro w' hb0 hw'
          go_simp
        simp only [Act.put, List.setIfInBounds_toArray, List.set_cons_zero, List.set_cons_succ]
        refine pl_end ?_
        have HBW : Hid (Below w4.heap.size w4 Wz) := below_step HB6.out hbW
        clear hbW hn
        cases ak
        · go_wp2_with fail
          refine ⟨?_, ?measureTa⟩
          rotate_left
          · (simp [intOf]) <;> omega
          have hfin : ∃ k_1 : Nat, k_1 ≤ l.length ∧ Value.int IntKind.i64 ((k : Int) + 1) = Value.int IntKind.i64 (k_1 : Int) ∧ Value.bool false = Value.bool (knD iss l k_1) ∧ Hid (Below w4.heap.size w4 Wz) := ⟨k + 1, by omega, rfl, by rw [HKN.out, HAK.out, HKB.out]; rfl, HBW⟩
          first | exact hfin | ((repeat apply Exists.intro); exact ⟨hfin, rfl⟩)
        · go_wp2_with fail
          refine ⟨?_, ?measureTb⟩
          rotate_left
          · (simp [intOf]) <;> omega
          have hfin : ∃ k_1 : Nat, k_1 ≤ l.length ∧ Value.int IntKind.i64 ((k : Int) + 1) = Value.int IntKind.i64 (k_1 : Int) ∧ Value.bool true = Value.bool (knD iss l k_1) ∧ Hid (Below w4.heap.size w4 Wz) := ⟨k + 1, by omega, rfl, by rw [HKN.out, HAK.out, HKB.out]; rfl, HBW⟩
          first | exact hfin | ((repeat apply Exists.intro); exact ⟨hfin, rfl⟩)
    · obtain rfl : k = l.length := by omega
      have HB2 := Lib.hid (below_step HB.out hC.out)
      replace H := Lib.hid (H.out.below hC.out); replace HI := Lib.hid (HI.out.below hC.out)
      clear hC HM
      cases ak
      · go_wp2
        refine bodyPost_ret (v := .bool true) (by simp [results, Try.results3, go_sem]) rfl ⟨rfl, HB2.out⟩
      go_wp2_with fail
      refine (inj10 iss wr ob _ cb HI.out (by have := HIO.out; omega)).mono ?_
      rintro r w7 ⟨⟨b, rfl, hq⟩, hb⟩
      replace H := Lib.hid (H.out.below hb); replace HB2 := Lib.hid (below_step HB2.out hb)
      have HQ := Lib.hid hq
      clear hb hq
      cases b with
      | false =>
        go_wp2
        refine bodyPost_ret (v := .bool true) (by simp [results, Try.results3, go_sem]) rfl ⟨rfl, HB2.out⟩
      | true =>
      have HAP : Hid (apartD l = true) := apart_of (knD_all iss l HAK.out) (HQ.out rfl)
      clear HQ
      go_wp2_with fail
      refine (apart11 l w7 oa _ c H.out HS.out.2 HID.out HS.out.1).mono ?_
      rintro r w8 ⟨rfl, hb⟩
      rw [HAP.out]
      replace HB2 := Lib.hid (below_step HB2.out hb)
      clear hb
      go_wp2
      refine bodyPost_ret (v := .bool true) (by simp [results, Try.results3, go_sem]) rfl ⟨rfl, HB2.out⟩
end Go.Proofs.Ythdkgcmoagookaa
