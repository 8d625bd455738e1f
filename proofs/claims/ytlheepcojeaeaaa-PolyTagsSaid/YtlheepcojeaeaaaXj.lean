/-
  The law's walk: tags.
-/
import Derived.Test.YtlheepcojeaeaaaXi
namespace Go.Proofs.Ytlheepcojeaeaaa
open Go.RowKit Go.Proofs.Ytlheepcojeaeaaa.PlanB Go.Proofs.Ytlheepcojeaeaaa.Eager
set_option maxHeartbeats 1000000
set_option maxRecDepth 4000
set_option linter.unusedVariables false
set_option linter.unusedSimpArgs false

theorem tags_any (key msg tag : List UInt8) (w : World) (ok : Option Addr) (nk ck : Nat) (om : Option Addr) (nm cm : Nat) (ot : Option Addr) (nt ct : Nat) (hk : Reads w ok nk key) (hck : nk ≤ ck) (hckm : ck ≤ maxLen) (hm : Reads w om nm msg) (hcm : nm ≤ cm) (hcmm : cm ≤ maxLen) (ht : Reads w ot nt tag) :
    Calls Try.prog 4 #[.slice ok nk ck, .slice om nm cm, .slice ot nt ct] w fun r w' => r = .returned (.bool true) ∧ Below w.heap.size w w' := by
  obtain rfl : nk = key.length := hk.len
  obtain rfl : nm = msg.length := hm.len
  obtain rfl : nt = tag.length := ht.len
  have HK := Lib.hid hk; have HM := Lib.hid hm; have HT := Lib.hid ht
  have HF := Lib.hid (And.intro hck (And.intro hckm (And.intro hcm hcmm)))
  clear hk hm ht hck hckm hcm hcmm
  have big : ∀ b : Bool, b = b := fun _ => rfl
  by_cases h1 : (100 : Int) < (key.length : Int)
  · go_enter Try.func4, Try.ntmps4
    go_wp2_with fail
    refine (works6 _).mono ?_
    rintro r w1 ⟨rfl, hb⟩
    have HB := Lib.hid hb
    clear hb
    go_wp2
    refine bodyPost_ret (v := .bool true) (by simp [results, Try.results4, go_sem]) rfl ⟨rfl, HB.out⟩
  by_cases h2 : (1000 : Int) < (msg.length : Int)
  · go_enter Try.func4, Try.ntmps4
    go_wp2_with fail
    refine (works6 _).mono ?_
    rintro r w1 ⟨rfl, hb⟩
    have HB := Lib.hid hb
    clear hb
    go_wp2
    refine bodyPost_ret (v := .bool true) (by simp [results, Try.results4, go_sem]) rfl ⟨rfl, HB.out⟩
  by_cases h3 : (100 : Int) < (tag.length : Int)
  · go_enter Try.func4, Try.ntmps4
    go_wp2_with fail
    refine (works6 _).mono ?_
    rintro r w1 ⟨rfl, hb⟩
    have HB := Lib.hid hb
    clear hb
    go_wp2
    refine bodyPost_ret (v := .bool true) (by simp [results, Try.results4, go_sem]) rfl ⟨rfl, HB.out⟩
  have HX : Hid (msg.length ≤ 1000000 ∧ tag.length ≤ 1000000) := ⟨by omega, by omega⟩
  go_enter Try.func4, Try.ntmps4
  go_wp2_with fail
  refine (tag7u key msg w ok om _ ck _ cm HK.out HM.out HF.out.1 HF.out.2.1 HF.out.2.2.1 HF.out.2.2.2 HX.out.1).mono ?_
  rintro r w1 ⟨oa, na, ca, rfl, hA, hb⟩
  replace HK := Lib.hid (HK.out.below hb); replace HM := Lib.hid (HM.out.below hb); replace HT := Lib.hid (HT.out.below hb)
  have HA := Lib.hid hA; have HB := Lib.hid hb
  clear hA hb
  go_wp2_with fail
  refine (tag8u key msg w1 ok om _ ck _ cm HK.out HM.out HF.out.1 HF.out.2.1 HF.out.2.2.1 HF.out.2.2.2 HX.out.1).mono ?_
  rintro r w2 ⟨ob, nb, cb, rfl, hA, hb⟩
  replace HK := Lib.hid (HK.out.below hb); replace HM := Lib.hid (HM.out.below hb); replace HT := Lib.hid (HT.out.below hb); replace HA := Lib.hid (HA.out.below hb); replace HB := Lib.hid (below_step HB.out hb)
  have HD := Lib.hid hA
  clear hA hb h1 h2 h3
  obtain ⟨e, he⟩ : ∃ e, badU key = e := ⟨_, rfl⟩
  rw [he]
  clear he
  go_wp2_with fail
  refine wp_region_plan (some w2.heap.size) [] [] (.take 0 (.take 1 (.take 2 (.take 3 (.take 4 (.take 5 (.take 6 (.take 7 (.take 8 (.take 9 (.take 10 (.take 11 (.take 12 (.take 13 (.take 15 (.take 16 (.take 17 (.one 14 (.one 18 (.take 19 (.take 20 (.take 21 (.take 22 (.take 25 (.one 23 (.two 24 (.one 26 (.one 27 (.take 28 (.take 29 (.take 30 (.one 31 (.take 32 (.take 33 .done)))))))) 26 (.two 24 (.one 27 (.take 28 (.take 29 (.take 30 (.one 31 (.take 32 (.take 33 .done))))))) 27 (.one 24 (.take 28 (.take 29 (.take 30 (.one 31 (.take 32 (.take 33 .done)))))))))))))))))))))))))))))))))) (by kernel_rfl) (by kernel_rfl) (fun _ _ dd _ _ h => by cases dd <;> exact h) ?_
  intro W0 hW0
  have hbW : Below w2.heap.size w2 W0 := by rw [hW0]; exact below_drew w2
  have hn : w2.heap.size ≤ W0.heap.size := hbW.size
  clear hW0
  generalize W0 = Wz at *
  (refine pl_take (d := 37) (v := ?_) rfl rfl rfl ?_ ?_; rotate_left; (focus ((intro w' hb0 hw'; go_simp) <;> with_reducible rfl)); simp only [Act.put, List.setIfInBounds_toArray, List.set_cons_zero, List.set_cons_succ])
  refine pl_take (d := 38) (v := .string (str (tagU key msg))) rfl rfl rfl ?_ ?_
  · intro w' hb0 hw'
    have hx := run_convert_cells (P := Try.prog) w' 23 9 5 rfl rfl rfl oa (tagU key msg) na ca (HA.out.below (hbW.trans hw')).len (HA.out.below (hbW.trans hw')).cells
    go_simp
  simp only [Act.put, List.setIfInBounds_toArray, List.set_cons_zero, List.set_cons_succ]
  (refine pl_take (d := 39) (v := ?_) rfl rfl rfl ?_ ?_; rotate_left; (focus ((intro w' hb0 hw'; go_simp) <;> with_reducible rfl)); simp only [Act.put, List.setIfInBounds_toArray, List.set_cons_zero, List.set_cons_succ])
  refine pl_take (d := 40) (v := .string (str (tagU key msg))) rfl rfl rfl ?_ ?_
  · intro w' hb0 hw'
    have hx := run_convert_cells (P := Try.prog) w' 23 9 5 rfl rfl rfl ob (tagU key msg) nb cb (HD.out.below (hbW.trans hw')).len (HD.out.below (hbW.trans hw')).cells
    go_simp
  simp only [Act.put, List.setIfInBounds_toArray, List.set_cons_zero, List.set_cons_succ]
  refine pl_take (d := 41) (v := .bool true) rfl rfl rfl ?_ ?_
  · intro w' hb0 hw'
    go_simp
  simp only [Act.put, List.setIfInBounds_toArray, List.set_cons_zero, List.set_cons_succ]
  (refine pl_take (d := 42) (v := ?_) rfl rfl rfl ?_ ?_; rotate_left; (focus ((intro w' hb0 hw'; go_simp) <;> with_reducible rfl)); simp only [Act.put, List.setIfInBounds_toArray, List.set_cons_zero, List.set_cons_succ])
  (refine pl_take (d := 43) (v := ?_) rfl rfl rfl ?_ ?_; rotate_left; (focus ((intro w' hb0 hw'; go_simp) <;> with_reducible rfl)); simp only [Act.put, List.setIfInBounds_toArray, List.set_cons_zero, List.set_cons_succ])
  (refine pl_take (d := 44) (v := ?_) rfl rfl rfl ?_ ?_; rotate_left; (focus ((intro w' hb0 hw'; go_simp) <;> with_reducible rfl)); simp only [Act.put, List.setIfInBounds_toArray, List.set_cons_zero, List.set_cons_succ])
  refine pl_take (d := 45) (v := .bool true) rfl rfl rfl ?_ ?_
  · intro w' hb0 hw'
    go_simp
  simp only [Act.put, List.setIfInBounds_toArray, List.set_cons_zero, List.set_cons_succ]
  (refine pl_take (d := 46) (v := ?_) rfl rfl rfl ?_ ?_; rotate_left; (focus ((intro w' hb0 hw'; go_simp) <;> with_reducible rfl)); simp only [Act.put, List.setIfInBounds_toArray, List.set_cons_zero, List.set_cons_succ])
  (refine pl_take (d := 47) (v := ?_) rfl rfl rfl ?_ ?_; rotate_left; (focus ((intro w' hb0 hw'; go_simp) <;> with_reducible rfl)); simp only [Act.put, List.setIfInBounds_toArray, List.set_cons_zero, List.set_cons_succ])
  (refine pl_take (d := 48) (v := ?_) rfl rfl rfl ?_ ?_; rotate_left; (focus ((intro w' hb0 hw'; go_simp) <;> with_reducible rfl)); simp only [Act.put, List.setIfInBounds_toArray, List.set_cons_zero, List.set_cons_succ])
  (refine pl_take (d := 49) (v := ?_) rfl rfl rfl ?_ ?_; rotate_left; (focus ((intro w' hb0 hw'; go_simp) <;> with_reducible rfl)); simp only [Act.put, List.setIfInBounds_toArray, List.set_cons_zero, List.set_cons_succ])
  (refine pl_take (d := 50) (v := ?_) rfl rfl rfl ?_ ?_; rotate_left; (focus ((intro w' hb0 hw'; go_simp) <;> with_reducible rfl)); simp only [Act.put, List.setIfInBounds_toArray, List.set_cons_zero, List.set_cons_succ])
  (refine pl_take (d := 52) (v := ?_) rfl rfl rfl ?_ ?_; rotate_left; (focus ((intro w' hb0 hw'; go_simp) <;> with_reducible rfl)); simp only [Act.put, List.setIfInBounds_toArray, List.set_cons_zero, List.set_cons_succ])
  (refine pl_take (d := 53) (v := ?_) rfl rfl rfl ?_ ?_; rotate_left; (focus ((intro w' hb0 hw'; go_simp) <;> with_reducible rfl)); simp only [Act.put, List.setIfInBounds_toArray, List.set_cons_zero, List.set_cons_succ])
  (refine pl_take (d := 54) (v := ?_) rfl rfl rfl ?_ ?_; rotate_left; (focus ((intro w' hb0 hw'; go_simp) <;> with_reducible rfl)); simp only [Act.put, List.setIfInBounds_toArray, List.set_cons_zero, List.set_cons_succ])
  refine pl_one rfl rfl (fun K hK => ?_)
  go_simp
  refine (check9u key msg tag Wz ok om ot _ ck _ cm _ ct (HK.out.below hbW) (HM.out.below hbW) (HT.out.below hbW) HF.out.1 HF.out.2.1 HF.out.2.2.1 HF.out.2.2.2 HX.out.1 HX.out.2).mono ?_
  rintro r Wv ⟨rfl, hbk0⟩
  have hbk : Below w2.heap.size Wz Wv := hbk0.mono hn
  refine hK _ _ hbk ?_
  clear hK
  replace hbW := hbW.trans hbk
  replace hn := Nat.le_trans hn hbk0.size
  clear hbk hbk0
  generalize Wv = Wz at *
  refine pl_one rfl rfl (fun K hK => ?_)
  go_simp
  refine (check10u key msg tag Wz ok om ot _ ck _ cm _ ct (HK.out.below hbW) (HM.out.below hbW) (HT.out.below hbW) HF.out.1 HF.out.2.1 HF.out.2.2.1 HF.out.2.2.2 HX.out.1).mono ?_
  rintro r Wv ⟨rfl, hbk0⟩
  have hbk : Below w2.heap.size Wz Wv := hbk0.mono hn
  refine hK _ _ hbk ?_
  clear hK
  replace hbW := hbW.trans hbk
  replace hn := Nat.le_trans hn hbk0.size
  clear hbk hbk0
  generalize Wv = Wz at *
  refine pl_take (d := 56) (v := .bool true) rfl rfl rfl ?_ ?_
  · intro w' hb0 hw'
    go_simp
  simp only [Act.put, List.setIfInBounds_toArray, List.set_cons_zero, List.set_cons_succ]
  (refine pl_take (d := 57) (v := ?_) rfl rfl rfl ?_ ?_; rotate_left; (focus ((intro w' hb0 hw'; go_simp) <;> with_reducible rfl)); simp only [Act.put, List.setIfInBounds_toArray, List.set_cons_zero, List.set_cons_succ])
  (refine pl_take (d := 58) (v := ?_) rfl rfl rfl ?_ ?_; rotate_left; (focus ((intro w' hb0 hw'; go_simp) <;> with_reducible rfl)); simp only [Act.put, List.setIfInBounds_toArray, List.set_cons_zero, List.set_cons_succ])
  (refine pl_take (d := 59) (v := ?_) rfl rfl rfl ?_ ?_; rotate_left; (focus ((intro w' hb0 hw'; go_simp) <;> with_reducible rfl)); simp only [Act.put, List.setIfInBounds_toArray, List.set_cons_zero, List.set_cons_succ])
  (refine pl_take (d := 62) (v := ?_) rfl rfl rfl ?_ ?_; rotate_left; (focus ((intro w' hb0 hw'; go_simp) <;> with_reducible rfl)); simp only [Act.put, List.setIfInBounds_toArray, List.set_cons_zero, List.set_cons_succ])
  refine pl_one rfl rfl (fun K hK => ?_)
  go_simp
  refine (clamp11u key Wz ok _ ck (HK.out.below hbW) HF.out.1 HF.out.2.1).mono ?_
  rintro r Wv ⟨o3, n3, c3, rfl, hR3, hbk0⟩
  have hbk : Below w2.heap.size Wz Wv := hbk0.mono hn
  refine hK _ _ hbk ?_
  clear hK
  replace hbW := hbW.trans hbk
  replace hn := Nat.le_trans hn hbk0.size
  clear hbk hbk0
  generalize Wv = Wz at *
  refine pl_two rfl rfl rfl rfl (fun K hK => ?_) (fun K hK => ?_)
  · have hx := run_convert_cells (P := Try.prog) Wz 23 9 5 rfl rfl rfl o3 (clU key) n3 c3 hR3.len hR3.cells
    go_simp
    refine hK _ _ (Below.refl _ _) ?_
    clear hK hx hR3
    refine pl_one rfl rfl (fun K hK => ?_)
    go_simp
    refine (clamp12u key Wz ok _ ck (HK.out.below hbW) HF.out.1 HF.out.2.1).mono ?_
    rintro r Wv ⟨o4, n4, c4, rfl, hR4, hbk0⟩
    have hbk : Below w2.heap.size Wz Wv := hbk0.mono hn
    refine hK _ _ hbk ?_
    clear hK
    replace hbW := hbW.trans hbk
    replace hn := Nat.le_trans hn hbk0.size
    (try replace hR3 := hR3.below hbk0)
    clear hbk hbk0
    generalize Wv = Wz at *
    refine pl_one rfl rfl (fun K hK => ?_)
    have hx := run_convert_cells (P := Try.prog) Wz 23 9 5 rfl rfl rfl o4 (clU key) n4 c4 hR4.len hR4.cells
    go_simp
    refine hK _ _ (Below.refl _ _) ?_
    clear hK hx hR4
    refine pl_take (d := 65) (v := .bool true) rfl rfl rfl ?_ ?_
    · intro w' hb0 hw'
      go_simp
    simp only [Act.put, List.setIfInBounds_toArray, List.set_cons_zero, List.set_cons_succ]
    (refine pl_take (d := 66) (v := ?_) rfl rfl rfl ?_ ?_; rotate_left; (focus ((intro w' hb0 hw'; go_simp) <;> with_reducible rfl)); simp only [Act.put, List.setIfInBounds_toArray, List.set_cons_zero, List.set_cons_succ])
    (refine pl_take (d := 67) (v := ?_) rfl rfl rfl ?_ ?_; rotate_left; (focus ((intro w' hb0 hw'; go_simp) <;> with_reducible rfl)); simp only [Act.put, List.setIfInBounds_toArray, List.set_cons_zero, List.set_cons_succ])
    refine pl_one rfl rfl (fun K hK => ?_)
    go_simp
    refine (works6 Wz).mono ?_
    rintro r Wv ⟨rfl, hbk0⟩
    have hbk : Below w2.heap.size Wz Wv := hbk0.mono hn
    refine hK _ _ hbk ?_
    clear hK
    replace hbW := hbW.trans hbk
    replace hn := Nat.le_trans hn hbk0.size
    clear hbk hbk0
    generalize Wv = Wz at *
    (refine pl_take (d := 69) (v := ?_) rfl rfl rfl ?_ ?_; rotate_left; (focus ((intro w' hb0 hw'; go_simp) <;> with_reducible rfl)); simp only [Act.put, List.setIfInBounds_toArray, List.set_cons_zero, List.set_cons_succ])
    (refine pl_take (d := 6) (v := ?_) rfl rfl rfl ?_ ?_; rotate_left; (focus ((intro w' hb0 hw'; go_simp) <;> with_reducible rfl)); simp only [Act.put, List.setIfInBounds_toArray, List.set_cons_zero, List.set_cons_succ])
    refine pl_end ?_
    have HBW := Lib.hid (below_step HB.out hbW)
    clear hbW
    go_wp2
    refine bodyPost_ret (v := .bool true) (by simp [results, Try.results4, go_sem]) rfl ⟨rfl, HBW.out⟩
  · go_simp
    refine (clamp12u key Wz ok _ ck (HK.out.below hbW) HF.out.1 HF.out.2.1).mono ?_
    rintro r Wv ⟨o4, n4, c4, rfl, hR4, hbk0⟩
    have hbk : Below w2.heap.size Wz Wv := hbk0.mono hn
    refine hK _ _ hbk ?_
    clear hK
    replace hbW := hbW.trans hbk
    replace hn := Nat.le_trans hn hbk0.size
    (try replace hR3 := hR3.below hbk0)
    clear hbk hbk0
    generalize Wv = Wz at *
    refine pl_two rfl rfl rfl rfl (fun K hK => ?_) (fun K hK => ?_)
    · have hx := run_convert_cells (P := Try.prog) Wz 23 9 5 rfl rfl rfl o3 (clU key) n3 c3 hR3.len hR3.cells
      go_simp
      refine hK _ _ (Below.refl _ _) ?_
      clear hK hx hR3
      refine pl_one rfl rfl (fun K hK => ?_)
      have hx := run_convert_cells (P := Try.prog) Wz 23 9 5 rfl rfl rfl o4 (clU key) n4 c4 hR4.len hR4.cells
      go_simp
      refine hK _ _ (Below.refl _ _) ?_
      clear hK hx hR4
      refine pl_take (d := 65) (v := .bool true) rfl rfl rfl ?_ ?_
      · intro w' hb0 hw'
        go_simp
      simp only [Act.put, List.setIfInBounds_toArray, List.set_cons_zero, List.set_cons_succ]
      (refine pl_take (d := 66) (v := ?_) rfl rfl rfl ?_ ?_; rotate_left; (focus ((intro w' hb0 hw'; go_simp) <;> with_reducible rfl)); simp only [Act.put, List.setIfInBounds_toArray, List.set_cons_zero, List.set_cons_succ])
      (refine pl_take (d := 67) (v := ?_) rfl rfl rfl ?_ ?_; rotate_left; (focus ((intro w' hb0 hw'; go_simp) <;> with_reducible rfl)); simp only [Act.put, List.setIfInBounds_toArray, List.set_cons_zero, List.set_cons_succ])
      refine pl_one rfl rfl (fun K hK => ?_)
      go_simp
      refine (works6 Wz).mono ?_
      rintro r Wv ⟨rfl, hbk0⟩
      have hbk : Below w2.heap.size Wz Wv := hbk0.mono hn
      refine hK _ _ hbk ?_
      clear hK
      replace hbW := hbW.trans hbk
      replace hn := Nat.le_trans hn hbk0.size
      clear hbk hbk0
      generalize Wv = Wz at *
      (refine pl_take (d := 69) (v := ?_) rfl rfl rfl ?_ ?_; rotate_left; (focus ((intro w' hb0 hw'; go_simp) <;> with_reducible rfl)); simp only [Act.put, List.setIfInBounds_toArray, List.set_cons_zero, List.set_cons_succ])
      (refine pl_take (d := 6) (v := ?_) rfl rfl rfl ?_ ?_; rotate_left; (focus ((intro w' hb0 hw'; go_simp) <;> with_reducible rfl)); simp only [Act.put, List.setIfInBounds_toArray, List.set_cons_zero, List.set_cons_succ])
      refine pl_end ?_
      have HBW := Lib.hid (below_step HB.out hbW)
      clear hbW
      go_wp2
      refine bodyPost_ret (v := .bool true) (by simp [results, Try.results4, go_sem]) rfl ⟨rfl, HBW.out⟩
    · have hx := run_convert_cells (P := Try.prog) Wz 23 9 5 rfl rfl rfl o4 (clU key) n4 c4 hR4.len hR4.cells
      go_simp
      refine hK _ _ (Below.refl _ _) ?_
      clear hK hx hR4
      refine pl_one rfl rfl (fun K hK => ?_)
      have hx := run_convert_cells (P := Try.prog) Wz 23 9 5 rfl rfl rfl o3 (clU key) n3 c3 hR3.len hR3.cells
      go_simp
      refine hK _ _ (Below.refl _ _) ?_
      clear hK hx hR3
      refine pl_take (d := 65) (v := .bool true) rfl rfl rfl ?_ ?_
      · intro w' hb0 hw'
        go_simp
      simp only [Act.put, List.setIfInBounds_toArray, List.set_cons_zero, List.set_cons_succ]
      (refine pl_take (d := 66) (v := ?_) rfl rfl rfl ?_ ?_; rotate_left; (focus ((intro w' hb0 hw'; go_simp) <;> with_reducible rfl)); simp only [Act.put, List.setIfInBounds_toArray, List.set_cons_zero, List.set_cons_succ])
      (refine pl_take (d := 67) (v := ?_) rfl rfl rfl ?_ ?_; rotate_left; (focus ((intro w' hb0 hw'; go_simp) <;> with_reducible rfl)); simp only [Act.put, List.setIfInBounds_toArray, List.set_cons_zero, List.set_cons_succ])
      refine pl_one rfl rfl (fun K hK => ?_)
      go_simp
      refine (works6 Wz).mono ?_
      rintro r Wv ⟨rfl, hbk0⟩
      have hbk : Below w2.heap.size Wz Wv := hbk0.mono hn
      refine hK _ _ hbk ?_
      clear hK
      replace hbW := hbW.trans hbk
      replace hn := Nat.le_trans hn hbk0.size
      clear hbk hbk0
      generalize Wv = Wz at *
      (refine pl_take (d := 69) (v := ?_) rfl rfl rfl ?_ ?_; rotate_left; (focus ((intro w' hb0 hw'; go_simp) <;> with_reducible rfl)); simp only [Act.put, List.setIfInBounds_toArray, List.set_cons_zero, List.set_cons_succ])
      (refine pl_take (d := 6) (v := ?_) rfl rfl rfl ?_ ?_; rotate_left; (focus ((intro w' hb0 hw'; go_simp) <;> with_reducible rfl)); simp only [Act.put, List.setIfInBounds_toArray, List.set_cons_zero, List.set_cons_succ])
      refine pl_end ?_
      have HBW := Lib.hid (below_step HB.out hbW)
      clear hbW
      go_wp2
      refine bodyPost_ret (v := .bool true) (by simp [results, Try.results4, go_sem]) rfl ⟨rfl, HBW.out⟩
end Go.Proofs.Ytlheepcojeaeaaa
