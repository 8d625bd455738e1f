/-
  The law's walk: where requests stand.
-/
import Derived.Test.YtmbakknpnilooaaWl
namespace Go.Proofs.Ytmbakknpnilooaa
open Go.RowKit Go.Proofs.Ytmbakknpnilooaa.Plan Go.Proofs.Ytmbakknpnilooaa.Eager
set_option maxHeartbeats 4000000
set_option maxRecDepth 20000
set_option linter.unusedVariables false
set_option linter.unusedSimpArgs false

theorem ints_same (a : List Nat) (w : World) (o1 o2 : Option Addr) (n1 n2 c1 c2 : Nat) (h1 : Rws IntC w o1 n1 c1 a) (h2 : Rws IntC w o2 n2 c2 a) :
    Calls Try.prog 22 #[.slice o1 n1 c1, .slice o2 n2 c2] w fun r w' => r = .returned (.bool true) ∧ Below w.heap.size w w' := by
  refine (ints22 a a w o1 o2 n1 n2 c1 c2 h1 h2).mono ?_
  rintro r w' ⟨rfl, hb⟩
  exact ⟨by rw [decide_eq_true rfl], hb⟩
theorem pendsFinds5 (l k : List Pd) (rid : Int) (id : Nat) (e : En) (why : Int) (w : World) (oa : Option Addr) (n c : Nat) (ob : Option Addr) (nb cb : Nat) (h : RPd w oa n c l) (hk : RPd w ob nb cb k) :
    Calls Try.prog 5 #[.slice oa n c, .slice ob nb cb, .int .i64 rid, .int .u64 id, .agg e.cells.toArray, .int .i64 why] w fun r w' => r = .returned (.bool true) ∧ Below w.heap.size w w' := by
  obtain rfl : n = l.length := h.rows.rows.len
  have hal : Below w.heap.size w (w.alloc (.cells e.cells.toArray 25)) := (Below.refl _ _).alloc (Nat.le_refl _) _
  have HX : Hid (Blk (w.alloc (.cells e.cells.toArray 25)) w.heap.size e.cells) := Blk.new' rfl
  have H := Lib.hid (h.below hal); have HK := Lib.hid (hk.below hal); have HB := Lib.hid hal
  clear h hk hal
  go_enter Try.func5, Try.ntmps5
  go_wp2_with fail
  refine (great6 l _ oa _ c H.out).mono ?_
  rintro r w2 ⟨⟨b, rfl, hbl⟩, hb⟩
  replace HX := Lib.hid (HX.out.later hb); replace H := Lib.hid (H.out.below hb); replace HK := Lib.hid (HK.out.below hb); replace HB := Lib.hid (below_step HB.out hb)
  have HBL := Lib.hid hbl
  clear hb hbl
  cases b with
  | true =>
    go_wp2_with fail
    refine (works7 _).mono ?_
    rintro r w3 ⟨rfl, hb⟩
    replace HB := Lib.hid (below_step HB.out hb)
    clear hb
    go_wp2
    refine bodyPost_ret (v := .bool true) (by simp [results, Try.results5, go_sem]) rfl ⟨rfl, HB.out⟩
  | false =>
  have HS : Hid (l.length ≤ 900) := by show _ ≤ _; have := (HBL.out rfl).1; omega
  clear HBL
  go_wp2_with fail
  refine (great6 k _ ob _ cb HK.out).mono ?_
  rintro r w3 ⟨⟨b, rfl, hbl⟩, hb⟩
  replace HX := Lib.hid (HX.out.later hb); replace H := Lib.hid (H.out.below hb); replace HK := Lib.hid (HK.out.below hb); replace HB := Lib.hid (below_step HB.out hb)
  clear hb hbl
  cases b with
  | true =>
    go_wp2_with fail
    refine (works7 _).mono ?_
    rintro r w4 ⟨rfl, hb⟩
    replace HB := Lib.hid (below_step HB.out hb)
    clear hb
    go_wp2
    refine bodyPost_ret (v := .bool true) (by simp [results, Try.results5, go_sem]) rfl ⟨rfl, HB.out⟩
  | false =>
  go_wp2_with (refine stop_load (ty := 25) rfl ?_)
  refine ⟨wpList_load_blk_w (by rfl) rfl HX.out (by rfl) row25 ?_⟩
  go_wp2_with fail
  refine (great17 e w3).mono ?_
  rintro r w4 ⟨⟨b, rfl⟩, hb⟩
  replace HX := Lib.hid (HX.out.later hb); replace H := Lib.hid (H.out.below hb); replace HK := Lib.hid (HK.out.below hb); replace HB := Lib.hid (below_step HB.out hb)
  clear hb
  cases b with
  | true =>
    go_wp2_with fail
    refine (works7 _).mono ?_
    rintro r w5 ⟨rfl, hb⟩
    replace HB := Lib.hid (below_step HB.out hb)
    clear hb
    go_wp2
    refine bodyPost_ret (v := .bool true) (by simp [results, Try.results5, go_sem]) rfl ⟨rfl, HB.out⟩
  | false =>
  go_wp2_with fail
  refine (busy18 l _ oa _ c H.out.rows HS.out).mono ?_
  rintro r w5 ⟨o1, c1, rfl, hX, hb⟩
  replace HX := Lib.hid (HX.out.later hb); replace H := Lib.hid (H.out.below hb); replace HK := Lib.hid (HK.out.below hb); replace HB := Lib.hid (below_step HB.out hb)
  have HA := Lib.hid hX
  clear hb hX
  go_wp2_with fail
  refine (busy19 l _ oa _ c H.out.rows HS.out).mono ?_
  rintro r w6 ⟨o2, c2, rfl, hX, hb⟩
  replace HX := Lib.hid (HX.out.later hb); replace H := Lib.hid (H.out.below hb); replace HK := Lib.hid (HK.out.below hb); replace HB := Lib.hid (below_step HB.out hb); replace HA := Lib.hid (HA.out.below hb)
  have HD := Lib.hid hX
  have HXL : Hid ((busyD l).length ≤ 900) := by
    show _ ≤ _
    have h1 := busy_le l l.length; have h2 := HS.out
    rw [List.take_length] at h1; omega
  clear hb hX
  obtain ⟨X, hXX⟩ : ∃ X, busyD l = X := ⟨_, rfl⟩
  rw [hXX] at HA HD HXL ⊢
  clear hXX
  go_wp2_with fail
  go_loopw [15, 33] (fun _ u wr => ∃ i : Nat, i ≤ X.length ∧ u = .int .i64 i ∧ Hid (Below w6.heap.size w6 wr)) (fun _ u _ => X.length - (intOf u).toNat)
  case atStart => exact ⟨0, by omega, rfl, Lib.hid (Below.refl _ _)⟩
  case round =>
    obtain ⟨i, hk, rfl, hbel⟩ := hrel
    by_cases hlt : i < X.length
    · have hi1 : (i : Int) < (X.length : Int) := by omega
      have hi2 : ¬ (X.length : Int) ≤ (i : Int) := by omega
      have rk : IntKind.i64.wrap ((i : Int) + 1) = ((i + 1 : Nat) : Int) := by
        have h1 := HXL.out
        rw [IntKind.wrap_i64]; omega
      obtain ⟨b1, p1, rfl, hA⟩ := (HA.out.below hbel.out).rows.num (fun _ => rfl) hlt
      obtain ⟨b2, p2, rfl, hD⟩ := (HD.out.below hbel.out).rows.num (fun _ => rfl) hlt
      obtain ⟨s, hs⟩ : ∃ q, X[i] = q := ⟨_, rfl⟩
      rw [hs] at hA hD
      have HA2 := Lib.hid hA; have HD2 := Lib.hid hD
      have hxl1 := hA.lt; have hxl2 := hD.lt
      clear hs hA hD
      obtain ⟨wA, rfl⟩ : ∃ x, x = wr := ⟨_, rfl⟩
      go_wp2_with fail
      refine wp_region_plan none [] [] (.take 0 (.take 1 (.take 2 (.take 3 (.take 4 (.take 5 (.take 6 (.take 7 (.take 8 (.take 9 (.take 10 (.take 11 (.take 12 (.take 13 (.take 14 .done))))))))))))))) (by kernel_rfl) (by kernel_rfl) (fun _ _ dd _ _ h => by cases dd <;> exact h) ?_
      intro W0 hW0
      have hbW : Below w6.heap.size w6 W0 := by rw [hW0]; exact hbel.out.drew
      have hab : Below wA.heap.size wA W0 := by rw [hW0]; exact below_drew wA
      clear hW0
      (refine pl_take (d := 36) (v := ?_) rfl rfl rfl ?_ ?_; rotate_left; (focus ((intro w' hb0 hw'; go_simp) <;> with_reducible rfl)); simp only [Act.put, List.setIfInBounds_toArray, List.set_cons_zero, List.set_cons_succ])
      (refine pl_take (d := 37) (v := ?_) rfl rfl rfl ?_ ?_; rotate_left; (focus ((intro w' hb0 hw'; go_simp) <;> with_reducible rfl)); simp only [Act.put, List.setIfInBounds_toArray, List.set_cons_zero, List.set_cons_succ])
      (refine pl_take (d := 38) (v := ?_) rfl rfl rfl ?_ ?_; rotate_left; (focus ((intro w' hb0 hw'; go_simp) <;> with_reducible rfl)); simp only [Act.put, List.setIfInBounds_toArray, List.set_cons_zero, List.set_cons_succ])
      refine pl_take (d := 39) (v := .bool false) rfl rfl rfl ?_ ?_
      · intro w' hb0 hw'
        go_simp
      simp only [Act.put, List.setIfInBounds_toArray, List.set_cons_zero, List.set_cons_succ]
      (refine pl_take (d := 40) (v := ?_) rfl rfl rfl ?_ ?_; rotate_left; (focus ((intro w' hb0 hw'; go_simp) <;> with_reducible rfl)); simp only [Act.put, List.setIfInBounds_toArray, List.set_cons_zero, List.set_cons_succ])
      (refine pl_take (d := 41) (v := ?_) rfl rfl rfl ?_ ?_; rotate_left; (focus ((intro w' hb0 hw'; go_simp) <;> with_reducible rfl)); simp only [Act.put, List.setIfInBounds_toArray, List.set_cons_zero, List.set_cons_succ])
      (refine pl_take (d := 42) (v := ?_) rfl rfl rfl ?_ ?_; rotate_left; (focus ((intro w' hb0 hw'; go_simp) <;> with_reducible rfl)); simp only [Act.put, List.setIfInBounds_toArray, List.set_cons_zero, List.set_cons_succ])
      (refine pl_take (d := 43) (v := ?_) rfl rfl rfl ?_ ?_; rotate_left; (focus ((intro w' hb0 hw'; go_simp) <;> with_reducible rfl)); simp only [Act.put, List.setIfInBounds_toArray, List.set_cons_zero, List.set_cons_succ])
      (refine pl_take (d := 44) (v := ?_) rfl rfl rfl ?_ ?_; rotate_left; (focus ((intro w' hb0 hw'; have q1 : w'.cell? ⟨b1, p1 + i, none⟩ = some (.int .u64 (s : Int)) := (HA2.out.later (below_step hab hw')).get 0 (by simp [U64C]); go_simp) <;> with_reducible rfl)); simp only [Act.put, List.setIfInBounds_toArray, List.set_cons_zero, List.set_cons_succ])
      (refine pl_take (d := 45) (v := ?_) rfl rfl rfl ?_ ?_; rotate_left; (focus ((intro w' hb0 hw'; go_simp) <;> with_reducible rfl)); simp only [Act.put, List.setIfInBounds_toArray, List.set_cons_zero, List.set_cons_succ])
      (refine pl_take (d := 46) (v := ?_) rfl rfl rfl ?_ ?_; rotate_left; (focus ((intro w' hb0 hw'; go_simp) <;> with_reducible rfl)); simp only [Act.put, List.setIfInBounds_toArray, List.set_cons_zero, List.set_cons_succ])
      (refine pl_take (d := 47) (v := ?_) rfl rfl rfl ?_ ?_; rotate_left; (focus ((intro w' hb0 hw'; go_simp) <;> with_reducible rfl)); simp only [Act.put, List.setIfInBounds_toArray, List.set_cons_zero, List.set_cons_succ])
      (refine pl_take (d := 48) (v := ?_) rfl rfl rfl ?_ ?_; rotate_left; (focus ((intro w' hb0 hw'; have q2 : w'.cell? ⟨b2, p2 + i, none⟩ = some (.int .u64 (s : Int)) := (HD2.out.later (below_step hab hw')).get 0 (by simp [U64C]); go_simp) <;> with_reducible rfl)); simp only [Act.put, List.setIfInBounds_toArray, List.set_cons_zero, List.set_cons_succ])
      refine pl_take (d := 49) (v := .bool false) rfl rfl rfl ?_ ?_
      · intro w' hb0 hw'
        go_simp
      simp only [Act.put, List.setIfInBounds_toArray, List.set_cons_zero, List.set_cons_succ]
      (refine pl_take (d := 50) (v := ?_) rfl rfl rfl ?_ ?_; rotate_left; (focus ((intro w' hb0 hw'; go_simp) <;> with_reducible rfl)); simp only [Act.put, List.setIfInBounds_toArray, List.set_cons_zero, List.set_cons_succ])
      refine pl_end ?_
      go_wp2_with fail
      go_roundw
      case measure => (simp [intOf]) <;> omega
      case rel => exact ⟨i + 1, by omega, rfl, Lib.hid hbW⟩
    · obtain rfl : i = X.length := by omega
      obtain ⟨w7, rfl⟩ : ∃ x, x = wr := ⟨_, rfl⟩
      replace HB := Lib.hid (below_step HB.out hbel.out); replace HX := Lib.hid (HX.out.later hbel.out); replace H := Lib.hid (H.out.below hbel.out); replace HK := Lib.hid (HK.out.below hbel.out)
      clear hbel HA HD HXL
      go_wp2_with fail
      refine wp_region_plan (some w7.heap.size) [] [] (.take 0 (.take 1 (.take 2 (.take 3 (.take 4 (.take 5 (.take 6 (.take 7 (.take 9 (.take 10 (.one 8 (.one 11 (.take 12 (.take 13 (.take 14 (.take 15 (.take 16 (.take 18 (.take 19 (.one 17 (.one 20 (.one 21 (.take 22 (.take 23 (.take 24 (.take 25 (.take 27 (.take 28 (.one 26 (.one 29 (.one 30 (.take 31 (.take 32 (.take 33 (.take 34 (.take 35 (.take 36 (.take 38 (.take 39 (.take 40 (.take 41 (.one 37 (.one 42 (.take 43 (.take 44 (.take 45 (.take 46 (.take 47 (.take 49 (.take 50 (.one 48 (.one 51 (.take 52 (.take 53 (.take 54 (.one 55 (.take 56 (.take 57 .done)))))))))))))))))))))))))))))))))))))))))))))))))))))))))) (by kernel_rfl) (by kernel_rfl) (fun _ _ dd _ _ h => by cases dd <;> exact h) ?_
      intro W0 hW0
      have hbW : Below w7.heap.size w7 W0 := by rw [hW0]; exact below_drew w7
      have hn : w7.heap.size ≤ W0.heap.size := hbW.size
      clear hW0
      have HL2 := H
      have HK2 := HK
      generalize W0 = Wz at *
      (refine pl_take (d := 52) (v := ?_) rfl rfl rfl ?_ ?_; rotate_left; (focus ((intro w' hb0 hw'; go_simp) <;> with_reducible rfl)); simp only [Act.put, List.setIfInBounds_toArray, List.set_cons_zero, List.set_cons_succ])
      (refine pl_take (d := 53) (v := ?_) rfl rfl rfl ?_ ?_; rotate_left; (focus ((intro w' hb0 hw'; go_simp) <;> with_reducible rfl)); simp only [Act.put, List.setIfInBounds_toArray, List.set_cons_zero, List.set_cons_succ])
      (refine pl_take (d := 54) (v := ?_) rfl rfl rfl ?_ ?_; rotate_left; (focus ((intro w' hb0 hw'; go_simp) <;> with_reducible rfl)); simp only [Act.put, List.setIfInBounds_toArray, List.set_cons_zero, List.set_cons_succ])
      (refine pl_take (d := 55) (v := ?_) rfl rfl rfl ?_ ?_; rotate_left; (focus ((intro w' hb0 hw'; go_simp) <;> with_reducible rfl)); simp only [Act.put, List.setIfInBounds_toArray, List.set_cons_zero, List.set_cons_succ])
      refine pl_take (d := 56) (v := .bool true) rfl rfl rfl ?_ ?_
      · intro w' hb0 hw'
        go_simp
      simp only [Act.put, List.setIfInBounds_toArray, List.set_cons_zero, List.set_cons_succ]
      (refine pl_take (d := 57) (v := ?_) rfl rfl rfl ?_ ?_; rotate_left; (focus ((intro w' hb0 hw'; go_simp) <;> with_reducible rfl)); simp only [Act.put, List.setIfInBounds_toArray, List.set_cons_zero, List.set_cons_succ])
      (refine pl_take (d := 58) (v := ?_) rfl rfl rfl ?_ ?_; rotate_left; (focus ((intro w' hb0 hw'; go_simp) <;> with_reducible rfl)); simp only [Act.put, List.setIfInBounds_toArray, List.set_cons_zero, List.set_cons_succ])
      (refine pl_take (d := 59) (v := ?_) rfl rfl rfl ?_ ?_; rotate_left; (focus ((intro w' hb0 hw'; go_simp) <;> with_reducible rfl)); simp only [Act.put, List.setIfInBounds_toArray, List.set_cons_zero, List.set_cons_succ])
      (refine pl_take (d := 61) (v := ?_) rfl rfl rfl ?_ ?_; rotate_left; (focus ((intro w' hb0 hw'; go_simp) <;> with_reducible rfl)); simp only [Act.put, List.setIfInBounds_toArray, List.set_cons_zero, List.set_cons_succ])
      (refine pl_take (d := 62) (v := ?_) rfl rfl rfl ?_ ?_; rotate_left; (focus ((intro w' hb0 hw'; go_simp) <;> with_reducible rfl)); simp only [Act.put, List.setIfInBounds_toArray, List.set_cons_zero, List.set_cons_succ])
      refine pl_one rfl rfl (fun K hK => ?_)
      go_simp
      refine (place20 l rid Wz oa _ c (HL2.out.below hbW).rows).mono ?_
      rintro r Wv ⟨rfl, hbk0⟩
      have hbk : Below w7.heap.size Wz Wv := hbk0.mono hn
      refine hK _ _ hbk ?_
      clear hK
      replace hbW := hbW.trans hbk
      replace hn := Nat.le_trans hn hbk0.size
      clear hbk hbk0
      generalize Wv = Wz at *
      refine pl_one rfl rfl (fun K hK => ?_)
      go_simp
      refine (refPlace21 l rid Wz oa _ c (HL2.out.below hbW).rows).mono ?_
      rintro r Wv ⟨rfl, hbk0⟩
      have hbk : Below w7.heap.size Wz Wv := hbk0.mono hn
      refine hK _ _ hbk ?_
      clear hK
      replace hbW := hbW.trans hbk
      replace hn := Nat.le_trans hn hbk0.size
      clear hbk hbk0
      generalize Wv = Wz at *
      refine pl_take (d := 64) (v := .bool true) rfl rfl rfl ?_ ?_
      · intro w' hb0 hw'
        go_simp
      simp only [Act.put, List.setIfInBounds_toArray, List.set_cons_zero, List.set_cons_succ]
      (refine pl_take (d := 65) (v := ?_) rfl rfl rfl ?_ ?_; rotate_left; (focus ((intro w' hb0 hw'; go_simp) <;> with_reducible rfl)); simp only [Act.put, List.setIfInBounds_toArray, List.set_cons_zero, List.set_cons_succ])
      (refine pl_take (d := 66) (v := ?_) rfl rfl rfl ?_ ?_; rotate_left; (focus ((intro w' hb0 hw'; go_simp) <;> with_reducible rfl)); simp only [Act.put, List.setIfInBounds_toArray, List.set_cons_zero, List.set_cons_succ])
      (refine pl_take (d := 67) (v := ?_) rfl rfl rfl ?_ ?_; rotate_left; (focus ((intro w' hb0 hw'; go_simp) <;> with_reducible rfl)); simp only [Act.put, List.setIfInBounds_toArray, List.set_cons_zero, List.set_cons_succ])
      (refine pl_take (d := 68) (v := ?_) rfl rfl rfl ?_ ?_; rotate_left; (focus ((intro w' hb0 hw'; go_simp) <;> with_reducible rfl)); simp only [Act.put, List.setIfInBounds_toArray, List.set_cons_zero, List.set_cons_succ])
      (refine pl_take (d := 70) (v := ?_) rfl rfl rfl ?_ ?_; rotate_left; (focus ((intro w' hb0 hw'; go_simp) <;> with_reducible rfl)); simp only [Act.put, List.setIfInBounds_toArray, List.set_cons_zero, List.set_cons_succ])
      (refine pl_take (d := 71) (v := ?_) rfl rfl rfl ?_ ?_; rotate_left; (focus ((intro w' hb0 hw'; go_simp) <;> with_reducible rfl)); simp only [Act.put, List.setIfInBounds_toArray, List.set_cons_zero, List.set_cons_succ])
      refine pl_one rfl rfl (fun K hK => ?_)
      go_simp
      refine (lost23 l id Wz oa _ c (HL2.out.below hbW).rows HS.out).mono ?_
      rintro r Wv ⟨o3, c3, rfl, hR3, hbk0⟩
      have hbk : Below w7.heap.size Wz Wv := hbk0.mono hn
      refine hK _ _ hbk ?_
      clear hK
      replace hbW := hbW.trans hbk
      replace hn := Nat.le_trans hn hbk0.size
      clear hbk hbk0
      generalize Wv = Wz at *
      refine pl_one rfl rfl (fun K hK => ?_)
      go_simp
      refine (refLost24 l id Wz oa _ c (HL2.out.below hbW).rows HS.out).mono ?_
      rintro r Wv ⟨o4, c4, rfl, hR4, hbk0⟩
      have hbk : Below w7.heap.size Wz Wv := hbk0.mono hn
      refine hK _ _ hbk ?_
      clear hK
      replace hbW := hbW.trans hbk
      replace hn := Nat.le_trans hn hbk0.size
      replace hR3 := hR3.below hbk0
      clear hbk hbk0
      generalize Wv = Wz at *
      refine pl_one rfl rfl (fun K hK => ?_)
      go_simp
      refine (ints_same _ Wz o3 o4 _ _ c3 c4 hR3 hR4).mono ?_
      rintro r Wv ⟨rfl, hbk0⟩
      have hbk : Below w7.heap.size Wz Wv := hbk0.mono hn
      refine hK _ _ hbk ?_
      clear hK
      replace hbW := hbW.trans hbk
      replace hn := Nat.le_trans hn hbk0.size
      clear hR3 hR4
      clear hbk hbk0
      generalize Wv = Wz at *
      (refine pl_take (d := 74) (v := ?_) rfl rfl rfl ?_ ?_; rotate_left; (focus ((intro w' hb0 hw'; go_simp) <;> with_reducible rfl)); simp only [Act.put, List.setIfInBounds_toArray, List.set_cons_zero, List.set_cons_succ])
      (refine pl_take (d := 75) (v := ?_) rfl rfl rfl ?_ ?_; rotate_left; (focus ((intro w' hb0 hw'; go_simp) <;> with_reducible rfl)); simp only [Act.put, List.setIfInBounds_toArray, List.set_cons_zero, List.set_cons_succ])
      (refine pl_take (d := 76) (v := ?_) rfl rfl rfl ?_ ?_; rotate_left; (focus ((intro w' hb0 hw'; go_simp) <;> with_reducible rfl)); simp only [Act.put, List.setIfInBounds_toArray, List.set_cons_zero, List.set_cons_succ])
      refine pl_take (d := 77) (v := .agg e.cells.toArray) rfl rfl rfl ?_ ?_
      · intro w' hb0 hw'
        exact run_load_blk rfl (HX.out.later (hbW.trans hw')) (by rfl) row25
      simp only [Act.put, List.setIfInBounds_toArray, List.set_cons_zero, List.set_cons_succ]
      (refine pl_take (d := 79) (v := ?_) rfl rfl rfl ?_ ?_; rotate_left; (focus ((intro w' hb0 hw'; go_simp) <;> with_reducible rfl)); simp only [Act.put, List.setIfInBounds_toArray, List.set_cons_zero, List.set_cons_succ])
      refine pl_take (d := 80) (v := .agg e.cells.toArray) rfl rfl rfl ?_ ?_
      · intro w' hb0 hw'
        exact run_load_blk rfl (HX.out.later (hbW.trans hw')) (by rfl) row25
      simp only [Act.put, List.setIfInBounds_toArray, List.set_cons_zero, List.set_cons_succ]
      refine pl_one rfl rfl (fun K hK => ?_)
      go_simp
      refine (waits25 l e Wz oa _ c (HL2.out.below hbW).rows HS.out).mono ?_
      rintro r Wv ⟨o5, c5, rfl, hR5, hbk0⟩
      have hbk : Below w7.heap.size Wz Wv := hbk0.mono hn
      refine hK _ _ hbk ?_
      clear hK
      replace hbW := hbW.trans hbk
      replace hn := Nat.le_trans hn hbk0.size
      clear hbk hbk0
      generalize Wv = Wz at *
      refine pl_one rfl rfl (fun K hK => ?_)
      go_simp
      refine (refWaits26 l e Wz oa _ c (HL2.out.below hbW).rows HS.out).mono ?_
      rintro r Wv ⟨o6, c6, rfl, hR6, hbk0⟩
      have hbk : Below w7.heap.size Wz Wv := hbk0.mono hn
      refine hK _ _ hbk ?_
      clear hK
      replace hbW := hbW.trans hbk
      replace hn := Nat.le_trans hn hbk0.size
      replace hR5 := hR5.below hbk0
      clear hbk hbk0
      generalize Wv = Wz at *
      refine pl_one rfl rfl (fun K hK => ?_)
      go_simp
      refine (ints_same _ Wz o5 o6 _ _ c5 c6 hR5 hR6).mono ?_
      rintro r Wv ⟨rfl, hbk0⟩
      have hbk : Below w7.heap.size Wz Wv := hbk0.mono hn
      refine hK _ _ hbk ?_
      clear hK
      replace hbW := hbW.trans hbk
      replace hn := Nat.le_trans hn hbk0.size
      clear hR5 hR6
      clear hbk hbk0
      generalize Wv = Wz at *
      (refine pl_take (d := 83) (v := ?_) rfl rfl rfl ?_ ?_; rotate_left; (focus ((intro w' hb0 hw'; go_simp) <;> with_reducible rfl)); simp only [Act.put, List.setIfInBounds_toArray, List.set_cons_zero, List.set_cons_succ])
      (refine pl_take (d := 84) (v := ?_) rfl rfl rfl ?_ ?_; rotate_left; (focus ((intro w' hb0 hw'; go_simp) <;> with_reducible rfl)); simp only [Act.put, List.setIfInBounds_toArray, List.set_cons_zero, List.set_cons_succ])
      (refine pl_take (d := 85) (v := ?_) rfl rfl rfl ?_ ?_; rotate_left; (focus ((intro w' hb0 hw'; go_simp) <;> with_reducible rfl)); simp only [Act.put, List.setIfInBounds_toArray, List.set_cons_zero, List.set_cons_succ])
      (refine pl_take (d := 86) (v := ?_) rfl rfl rfl ?_ ?_; rotate_left; (focus ((intro w' hb0 hw'; go_simp) <;> with_reducible rfl)); simp only [Act.put, List.setIfInBounds_toArray, List.set_cons_zero, List.set_cons_succ])
      (refine pl_take (d := 87) (v := ?_) rfl rfl rfl ?_ ?_; rotate_left; (focus ((intro w' hb0 hw'; go_simp) <;> with_reducible rfl)); simp only [Act.put, List.setIfInBounds_toArray, List.set_cons_zero, List.set_cons_succ])
      refine pl_take (d := 88) (v := .string e.name) rfl rfl rfl ?_ ?_
      · intro w' hb0 hw'
        have q : w'.cell? ⟨w.heap.size, 0, none⟩ = some (.string e.name) := (HX.out.later (hbW.trans hw')).at' 0 (by simp [En.cells])
        go_simp
      simp only [Act.put, List.setIfInBounds_toArray, List.set_cons_zero, List.set_cons_succ]
      (refine pl_take (d := 90) (v := ?_) rfl rfl rfl ?_ ?_; rotate_left; (focus ((intro w' hb0 hw'; go_simp) <;> with_reducible rfl)); simp only [Act.put, List.setIfInBounds_toArray, List.set_cons_zero, List.set_cons_succ])
      (refine pl_take (d := 91) (v := ?_) rfl rfl rfl ?_ ?_; rotate_left; (focus ((intro w' hb0 hw'; go_simp) <;> with_reducible rfl)); simp only [Act.put, List.setIfInBounds_toArray, List.set_cons_zero, List.set_cons_succ])
      (refine pl_take (d := 92) (v := ?_) rfl rfl rfl ?_ ?_; rotate_left; (focus ((intro w' hb0 hw'; go_simp) <;> with_reducible rfl)); simp only [Act.put, List.setIfInBounds_toArray, List.set_cons_zero, List.set_cons_succ])
      refine pl_take (d := 93) (v := .string e.name) rfl rfl rfl ?_ ?_
      · intro w' hb0 hw'
        have q : w'.cell? ⟨w.heap.size, 0, none⟩ = some (.string e.name) := (HX.out.later (hbW.trans hw')).at' 0 (by simp [En.cells])
        go_simp
      simp only [Act.put, List.setIfInBounds_toArray, List.set_cons_zero, List.set_cons_succ]
      refine pl_one rfl rfl (fun K hK => ?_)
      go_simp
      refine (has27 l why e.name Wz oa _ c (HL2.out.below hbW).rows).mono ?_
      rintro r Wv ⟨rfl, hbk0⟩
      have hbk : Below w7.heap.size Wz Wv := hbk0.mono hn
      refine hK _ _ hbk ?_
      clear hK
      replace hbW := hbW.trans hbk
      replace hn := Nat.le_trans hn hbk0.size
      clear hbk hbk0
      generalize Wv = Wz at *
      refine pl_one rfl rfl (fun K hK => ?_)
      go_simp
      refine (refHas28 l why e.name Wz oa _ c (HL2.out.below hbW).rows).mono ?_
      rintro r Wv ⟨rfl, hbk0⟩
      have hbk : Below w7.heap.size Wz Wv := hbk0.mono hn
      refine hK _ _ hbk ?_
      clear hK
      replace hbW := hbW.trans hbk
      replace hn := Nat.le_trans hn hbk0.size
      clear hbk hbk0
      generalize Wv = Wz at *
      refine pl_take (d := 95) (v := .bool true) rfl rfl rfl ?_ ?_
      · intro w' hb0 hw'
        go_simp
      simp only [Act.put, List.setIfInBounds_toArray, List.set_cons_zero, List.set_cons_succ]
      (refine pl_take (d := 96) (v := ?_) rfl rfl rfl ?_ ?_; rotate_left; (focus ((intro w' hb0 hw'; go_simp) <;> with_reducible rfl)); simp only [Act.put, List.setIfInBounds_toArray, List.set_cons_zero, List.set_cons_succ])
      (refine pl_take (d := 97) (v := ?_) rfl rfl rfl ?_ ?_; rotate_left; (focus ((intro w' hb0 hw'; go_simp) <;> with_reducible rfl)); simp only [Act.put, List.setIfInBounds_toArray, List.set_cons_zero, List.set_cons_succ])
      (refine pl_take (d := 98) (v := ?_) rfl rfl rfl ?_ ?_; rotate_left; (focus ((intro w' hb0 hw'; go_simp) <;> with_reducible rfl)); simp only [Act.put, List.setIfInBounds_toArray, List.set_cons_zero, List.set_cons_succ])
      (refine pl_take (d := 99) (v := ?_) rfl rfl rfl ?_ ?_; rotate_left; (focus ((intro w' hb0 hw'; go_simp) <;> with_reducible rfl)); simp only [Act.put, List.setIfInBounds_toArray, List.set_cons_zero, List.set_cons_succ])
      (refine pl_take (d := 101) (v := ?_) rfl rfl rfl ?_ ?_; rotate_left; (focus ((intro w' hb0 hw'; go_simp) <;> with_reducible rfl)); simp only [Act.put, List.setIfInBounds_toArray, List.set_cons_zero, List.set_cons_succ])
      (refine pl_take (d := 102) (v := ?_) rfl rfl rfl ?_ ?_; rotate_left; (focus ((intro w' hb0 hw'; go_simp) <;> with_reducible rfl)); simp only [Act.put, List.setIfInBounds_toArray, List.set_cons_zero, List.set_cons_succ])
      refine pl_one rfl rfl (fun K hK => ?_)
      go_simp
      refine (same16 l k Wz oa ob _ _ c cb (HL2.out.below hbW) (HK2.out.below hbW)).mono ?_
      rintro r Wv ⟨rfl, hbk0⟩
      have hbk : Below w7.heap.size Wz Wv := hbk0.mono hn
      refine hK _ _ hbk ?_
      clear hK
      replace hbW := hbW.trans hbk
      replace hn := Nat.le_trans hn hbk0.size
      clear hbk hbk0
      generalize Wv = Wz at *
      refine pl_one rfl rfl (fun K hK => ?_)
      go_simp
      refine (refSame13 l k Wz oa ob _ _ c cb (HL2.out.below hbW) (HK2.out.below hbW)).mono ?_
      rintro r Wv ⟨rfl, hbk0⟩
      have hbk : Below w7.heap.size Wz Wv := hbk0.mono hn
      refine hK _ _ hbk ?_
      clear hK
      replace hbW := hbW.trans hbk
      replace hn := Nat.le_trans hn hbk0.size
      clear hbk hbk0
      generalize Wv = Wz at *
      refine pl_take (d := 104) (v := .bool true) rfl rfl rfl ?_ ?_
      · intro w' hb0 hw'
        go_simp
      simp only [Act.put, List.setIfInBounds_toArray, List.set_cons_zero, List.set_cons_succ]
      (refine pl_take (d := 105) (v := ?_) rfl rfl rfl ?_ ?_; rotate_left; (focus ((intro w' hb0 hw'; go_simp) <;> with_reducible rfl)); simp only [Act.put, List.setIfInBounds_toArray, List.set_cons_zero, List.set_cons_succ])
      (refine pl_take (d := 106) (v := ?_) rfl rfl rfl ?_ ?_; rotate_left; (focus ((intro w' hb0 hw'; go_simp) <;> with_reducible rfl)); simp only [Act.put, List.setIfInBounds_toArray, List.set_cons_zero, List.set_cons_succ])
      refine pl_one rfl rfl (fun K hK => ?_)
      go_simp
      refine (works7 Wz).mono ?_
      rintro r Wv ⟨rfl, hbk0⟩
      have hbk : Below w7.heap.size Wz Wv := hbk0.mono hn
      refine hK _ _ hbk ?_
      clear hK
      replace hbW := hbW.trans hbk
      replace hn := Nat.le_trans hn hbk0.size
      clear hbk hbk0
      generalize Wv = Wz at *
      (refine pl_take (d := 108) (v := ?_) rfl rfl rfl ?_ ?_; rotate_left; (focus ((intro w' hb0 hw'; go_simp) <;> with_reducible rfl)); simp only [Act.put, List.setIfInBounds_toArray, List.set_cons_zero, List.set_cons_succ])
      (refine pl_take (d := 12) (v := ?_) rfl rfl rfl ?_ ?_; rotate_left; (focus ((intro w' hb0 hw'; go_simp) <;> with_reducible rfl)); simp only [Act.put, List.setIfInBounds_toArray, List.set_cons_zero, List.set_cons_succ])
      refine pl_end ?_
      have HBW := Lib.hid (below_step HB.out hbW)
      clear hbW
      go_wp2
      refine bodyPost_ret (v := .bool true) (by simp [results, Try.results5, go_sem]) rfl ⟨rfl, HBW.out⟩
end Go.Proofs.Ytmbakknpnilooaa
