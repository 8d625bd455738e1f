/-
  Walks: what is known behind all, as items; the document's keys.
-/
import Derived.Test.YtnfkjicoielpnaaWj
namespace Go.Proofs.Ytnfkjicoielpnaa
open Go.RowKit Go.Proofs.Ytnfkjicoielpnaa.Plan Go.Proofs.Ytnfkjicoielpnaa.Eager
set_option maxHeartbeats 2000000
set_option maxRecDepth 20000
set_option linter.unusedVariables false
set_option linter.unusedSimpArgs false

def itOf (s : KSt) : Option It := if s.2.is && !s.2.un then some ⟨s.1, s.2.val, s.2.ver, false⟩ else none
def mapUp (A : List KSt) : List It := A.filterMap itOf
def mapD (l : List Res) : List It := mapUp (stsOf l)
theorem mapUp_len (A : List KSt) : (mapUp A).length ≤ A.length := List.length_filterMap_le _ _
theorem mapUp_succ (A : List KSt) {k : Nat} (h : k < A.length) : mapUp (A.take (k + 1)) = mapUp (A.take k) ++ (itOf A[k]).toList := by
  unfold mapUp
  rw [List.take_succ_eq_append_getElem h, List.filterMap_append]
  congr 1
theorem it_oneCells (l : List It) : ∀ u ∈ l.flatMap It.cells, u.oneCell' = true := by
  intro u hu
  obtain ⟨p, -, hp⟩ := List.mem_flatMap.1 hu
  simp [It.cells] at hp
  rcases hp with rfl | rfl | rfl | rfl <;> rfl

theorem map10 (l : List Res) (w : World) (oa : Option Addr) (n c : Nat) (h : RRes w oa n c l) (hl : l.length ≤ 900) :
    Calls Try.prog 10 #[.slice oa n c] w fun r w' => (∃ o' c', r = .returned (.slice o' (mapD l).length c') ∧ RIt w' o' (mapD l).length c' (mapD l)) ∧ Below w.heap.size w w' := by
  obtain rfl : n = l.length := h.rows.len
  have H := Lib.hid h; have HL := Lib.hid hl; clear h hl
  go_enter Try.func10, Try.ntmps10
  go_wp2_with fail
  refine (keys13 l w oa _ c H.out (by have := HL.out; omega)).mono ?_
  rintro r w1 ⟨⟨ok, ck, rfl, hRk⟩, hb1⟩
  have hlk : (keysOf l).length = (stsOf l).length := by simp [stsOf]
  have HRK := Lib.hid hRk; have HB1 := Lib.hid hb1; have HLK := Lib.hid hlk; clear hRk hb1 hlk
  have hlk2 : (keysOf l).length ≤ 900 := by have := keysOf_len l; have := HL.out; omega
  have HLK2 := Lib.hid hlk2; clear hlk2
  go_wp2
  go_loopw [3, 5, 6, 10] (fun v _ _ u wr => ∃ k : Nat, k ≤ (keysOf l).length ∧ u = .int .i64 k ∧ Hid (Own wr w1.heap.size 44 4 v (mapUp ((stsOf l).take k)).length ((mapUp ((stsOf l).take k)).flatMap It.cells)) ∧ Hid (Below w1.heap.size w1 wr)) (fun _ _ _ u _ => (keysOf l).length - (intOf u).toNat)
  case atStart => exact ⟨0, by omega, rfl, Lib.hid (Own.nil _ _ _ _), Lib.hid (Below.refl _ _)⟩
  case round =>
    obtain ⟨k, hk, rfl, hO, hbel⟩ := hrel
    by_cases hlt : k < (keysOf l).length
    · have hi1 : (k : Int) < ((keysOf l).length : Int) := by omega
      have rk : IntKind.i64.wrap ((k : Int) + 1) = ((k + 1 : Nat) : Int) := by
        have h1 := HLK2.out
        rw [IntKind.wrap_i64]; omega
      have hlts : k < (stsOf l).length := by rw [← HLK.out]; exact hlt
      have HT := Lib.hid (mapUp_succ (stsOf l) hlts)
      have hst : (stsOf l)[k] = ((keysOf l)[k], known (ofKey l (keysOf l)[k])) := by simp [stsOf]
      rw [hst] at HT
      clear hst
      obtain ⟨b1, p1, rfl, hb1, e0⟩ := (HRK.out.rows.below hbel.out).str hlt
      obtain ⟨x, hx⟩ : ∃ x, (keysOf l)[k] = x := ⟨_, rfl⟩
      rw [hx] at e0 HT
      clear hx
      have hlm : (mapUp ((stsOf l).take k)).length ≤ 900 := by
        have h1 := mapUp_len ((stsOf l).take k)
        have h2 := HLK2.out
        have h3 := HLK.out
        simp only [List.length_take] at h1
        omega
      obtain ⟨M, hM⟩ : ∃ M, mapUp ((stsOf l).take k) = M := ⟨_, rfl⟩
      rw [hM] at hO HT hlm
      have HLM := Lib.hid hlm
      clear hM hlm
      go_wp2_with fail
      refine (of21 l x wr oa _ c ((H.out.below HB1.out).below hbel.out) (by have := HL.out; omega)).mono ?_
      rintro r w2 ⟨⟨o2, c2, rfl, hR2⟩, hb2⟩
      have hO2 := hO.out.later hb2
      have hbel2 := below_step hbel.out hb2
      have HO2 := Lib.hid hO2; have HB2 := Lib.hid hbel2; have HR2 := Lib.hid hR2
      clear hO2 hbel2 hb2 hR2 hO hbel e0
      go_wp2_with fail
      refine (known20 (ofKey l x) w2 o2 _ c2 HR2.out).mono ?_
      rintro r w3 ⟨rfl, hb3⟩
      have hO3 := HO2.out.later hb3
      have hbel3 := below_step HB2.out hb3
      obtain ⟨s, hs⟩ : ∃ s, known (ofKey l x) = s := ⟨_, rfl⟩
      rw [hs] at HT ⊢
      clear hs
      obtain ⟨val, ver, is, un⟩ := s
      have hal : Below w3.heap.size w3 (w3.alloc (.cells (St.cells ⟨val, ver, is, un⟩).toArray 33)) := (Below.refl _ _).alloc (Nat.le_refl _) _
      have hO4 := hO3.later hal
      have hbel4 := below_step hbel3 hal
      have HO4 := Lib.hid hO4; have HB4 := Lib.hid hbel4
      clear hO3 hbel3 hb3 hO4 hbel4 hal HO2 HB2 HR2
      simp only [St.cells]
      cases is
      case false =>
        have HT2 : Hid (mapUp ((stsOf l).take (k + 1)) = M) := by show _ = _; rw [HT.out]; simp [itOf]
        go_wp2
        go_roundw
        case measure => (simp [intOf]) <;> omega
        case rel => exact ⟨k + 1, by omega, rfl, Lib.hid (by rw [HT2.out]; exact HO4.out), HB4⟩
      cases un
      case true =>
        have HT2 : Hid (mapUp ((stsOf l).take (k + 1)) = M) := by show _ = _; rw [HT.out]; simp [itOf]
        go_wp2
        go_roundw
        case measure => (simp [intOf]) <;> omega
        case rel => exact ⟨k + 1, by omega, rfl, Lib.hid (by rw [HT2.out]; exact HO4.out), HB4⟩
      have HT2 : Hid (mapUp ((stsOf l).take (k + 1)) = M ++ [⟨x, val, ver, false⟩]) := by show _ = _; rw [HT.out]; simp [itOf]
      have hal : Below (w3.alloc (.cells (St.cells ⟨val, ver, true, false⟩).toArray 33)).heap.size (w3.alloc (.cells (St.cells ⟨val, ver, true, false⟩).toArray 33)) ((w3.alloc (.cells (St.cells ⟨val, ver, true, false⟩).toArray 33)).alloc (.cells [Value.string x, .string val, .int .i64 ver, .bool false].toArray 44)) := (Below.refl _ _).alloc (Nat.le_refl _) _
      have hN5 : Blk ((w3.alloc (.cells (St.cells ⟨val, ver, true, false⟩).toArray 33)).alloc (.cells [Value.string x, .string val, .int .i64 ver, .bool false].toArray 44)) (w3.heap.size + 1) [Value.string x, .string val, .int .i64 ver, .bool false] := Blk.new' (by simp)
      have hO5 := HO4.out.later hal
      have hbel5 := below_step HB4.out hal
      have HO5 := Lib.hid hO5; have HB5 := Lib.hid hbel5; have HN5 := Lib.hid hN5
      clear hO5 hbel5 hN5 hal HO4 HB4 HT
      go_wp2_with (refine stop_append rfl ?_)
      have hlen := HLM.out
      refine ⟨wpList_app el26 rfl (by rfl) (by rfl) HO5.out (by rfl) (m := 1) rfl HN5.out.cells (by simp [Value.oneCell']) (by simp [maxLen]; omega) (by omega) HB5.out.size ?_⟩
      intro v6 W6 hO6 hg6
      have hb6 := HO5.out.below hg6 HB5.out (Nat.le_refl _) HB5.out.size
      have HO6 := Lib.hid hO6; have HB6 := Lib.hid hb6
      clear hO6 hg6 hb6 hlen HO5 HN5 HB5
      go_wp2
      go_roundw
      case measure => (simp [intOf]) <;> omega
      case rel =>
        refine ⟨k + 1, by omega, rfl, Lib.hid ?_, HB6⟩
        rw [HT2.out]
        simpa [It.cells] using HO6.out
    · obtain rfl : k = (keysOf l).length := by omega
      rw [HLK.out, List.take_length] at hO
      obtain ⟨o', c', rfl, hR⟩ := Own.rws hO.out rfl
      have hbb := below_step HB1.out hbel.out
      have HR := Lib.hid hR; have HB := Lib.hid hbb; clear hR hbb hbel hO
      go_wp2
      refine bodyPost_ret (v := .slice o' (mapD l).length c') (by simp [results, Try.results10, go_sem, mapD]) rfl ⟨⟨o', c', rfl, HR.out⟩, HB.out⟩

theorem refMap11 (l : List Res) (w : World) (oa : Option Addr) (n c : Nat) (h : RRes w oa n c l) (hl : l.length ≤ 900) :
    Calls Try.prog 11 #[.slice oa n c] w fun r w' => (∃ o' c', r = .returned (.slice o' (mapD l).length c') ∧ RIt w' o' (mapD l).length c' (mapD l)) ∧ Below w.heap.size w w' := by
  obtain rfl : n = l.length := h.rows.len
  have H := Lib.hid h; have HL := Lib.hid hl; clear h hl
  go_enter Try.func11, Try.ntmps11
  go_wp2_with fail
  refine (states23 l w oa _ c H.out HL.out).mono ?_
  rintro r w1 ⟨⟨ok, ck, rfl, hRk⟩, hb1⟩
  obtain ⟨A, hA⟩ : ∃ A, stsOf l = A := ⟨_, rfl⟩
  have hlk2 : A.length ≤ 900 := by have := stsOf_len l; have := HL.out; rw [← hA]; omega
  have HMD : Hid (mapD l = mapUp A) := by show _ = _; unfold mapD; rw [hA]
  rw [hA] at hRk ⊢
  clear hA
  have HRK := Lib.hid hRk; have HB1 := Lib.hid hb1; clear hRk hb1
  have HLK2 := Lib.hid hlk2; clear hlk2
  go_wp2
  go_loopw [4, 5] (fun v u wr => ∃ k : Nat, k ≤ A.length ∧ u = .int .i64 k ∧ Hid (Own wr w1.heap.size 44 4 v (mapUp (A.take k)).length ((mapUp (A.take k)).flatMap It.cells)) ∧ Hid (Below w1.heap.size w1 wr)) (fun _ u _ => A.length - (intOf u).toNat)
  case atStart => exact ⟨0, by omega, rfl, Lib.hid (Own.nil _ _ _ _), Lib.hid (Below.refl _ _)⟩
  case round =>
    obtain ⟨k, hk, rfl, hO, hbel⟩ := hrel
    by_cases hlt : k < A.length
    · have hi1 : (k : Int) < (A.length : Int) := by omega
      have rk : IntKind.i64.wrap ((k : Int) + 1) = ((k + 1 : Nat) : Int) := by
        have h1 := HLK2.out
        rw [IntKind.wrap_i64]; omega
      have HT := Lib.hid (mapUp_succ A hlt)
      obtain ⟨b1, p1, rfl, hb1, e0, e1, e2, e3, e4⟩ := HRK.out.rows.ks hlt
      replace e0 := (hbel.out.cell (p := ⟨b1, p1 + k * 5, none⟩) hb1).trans e0
      replace e1 := (hbel.out.cell (p := ⟨b1, p1 + k * 5 + 1, none⟩) hb1).trans e1
      replace e2 := (hbel.out.cell (p := ⟨b1, p1 + k * 5 + 2, none⟩) hb1).trans e2
      replace e3 := (hbel.out.cell (p := ⟨b1, p1 + k * 5 + 3, none⟩) hb1).trans e3
      replace e4 := (hbel.out.cell (p := ⟨b1, p1 + k * 5 + 4, none⟩) hb1).trans e4
      obtain ⟨q, hq⟩ : ∃ q, A[k] = q := ⟨_, rfl⟩
      rw [hq] at e0 e1 e2 e3 e4 HT
      clear hq
      obtain ⟨x, val, ver, is, un⟩ := q
      simp only at e0 e1 e2 e3 e4
      have hlm : (mapUp (A.take k)).length ≤ 900 := by
        have h1 := mapUp_len (A.take k)
        have h2 := HLK2.out
        simp only [List.length_take] at h1
        omega
      obtain ⟨M, hM⟩ : ∃ M, mapUp (A.take k) = M := ⟨_, rfl⟩
      rw [hM] at hO HT hlm
      have HLEN := Lib.hid hlm
      clear hM hlm
      cases is
      case false =>
        replace HT : Hid (mapUp (A.take (k + 1)) = M) := by show _ = _; rw [HT.out]; simp [itOf]
        go_wp2
        go_roundw
        case measure => (simp [intOf]) <;> omega
        case rel => exact ⟨k + 1, by omega, rfl, Lib.hid (by rw [HT.out]; exact hO.out), hbel⟩
      cases un
      case true =>
        replace HT : Hid (mapUp (A.take (k + 1)) = M) := by show _ = _; rw [HT.out]; simp [itOf]
        go_wp2
        go_roundw
        case measure => (simp [intOf]) <;> omega
        case rel => exact ⟨k + 1, by omega, rfl, Lib.hid (by rw [HT.out]; exact hO.out), hbel⟩
      case false =>
          replace HT : Hid (mapUp (A.take (k + 1)) = M ++ [⟨x, val, ver, false⟩]) := by show _ = _; rw [HT.out]; simp [itOf]
          go_wp2
          refine wp_region_plan (some w1.heap.size) [] [] (.take 0 (.take 1 (.take 2 (.take 3 (.take 4 (.take 5 (.take 6 (.take 7 (.take 8 (.take 9 (.take 10 (.take 11 (.take 12 (.take 13 (.take 14 (.take 15 (.take 16 (.one 17 (.one 18 (.take 19 .done)))))))))))))))))))) (by kernel_rfl) (by kernel_rfl) (fun _ _ dd _ _ h => by cases dd <;> exact h) ?_
          intro W0 hW0
          have hO0 : Own W0 w1.heap.size 44 4 u4 M.length (M.flatMap It.cells) := by rw [hW0]; exact hO.out.drew
          have hbW0 : Below w1.heap.size w1 W0 := by rw [hW0]; exact hbel.out.drew
          have f0 := cell_later e0 (below_drew wr); have f1 := cell_later e1 (below_drew wr); have f2 := cell_later e2 (below_drew wr)
          rw [← hW0] at f0 f1 f2
          have hz0 := hbW0.size
          clear hW0 e0 e1 e2 e3 e4
          (refine pl_take (d := 27) (v := ?_) rfl rfl rfl ?_ ?_; rotate_left; (focus ((intro w' hb0 hw'; go_simp) <;> with_reducible rfl)); simp only [Act.put, List.setIfInBounds_toArray, List.set_cons_zero, List.set_cons_succ])
          (refine pl_take (d := 28) (v := ?_) rfl rfl rfl ?_ ?_; rotate_left; (focus ((intro w' hb0 hw'; go_simp) <;> with_reducible rfl)); simp only [Act.put, List.setIfInBounds_toArray, List.set_cons_zero, List.set_cons_succ])
          (refine pl_take (d := 29) (v := ?_) rfl rfl rfl ?_ ?_; rotate_left; (focus ((intro w' hb0 hw'; go_simp) <;> with_reducible rfl)); simp only [Act.put, List.setIfInBounds_toArray, List.set_cons_zero, List.set_cons_succ])
          (refine pl_take (d := 30) (v := ?_) rfl rfl rfl ?_ ?_; rotate_left; (focus ((intro w' hb0 hw'; go_simp) <;> with_reducible rfl)); simp only [Act.put, List.setIfInBounds_toArray, List.set_cons_zero, List.set_cons_succ])
          (refine pl_take (d := 31) (v := ?_) rfl rfl rfl ?_ ?_; rotate_left; (focus ((intro w' hb0 hw'; go_simp) <;> with_reducible rfl)); simp only [Act.put, List.setIfInBounds_toArray, List.set_cons_zero, List.set_cons_succ])
          (refine pl_take (d := 32) (v := ?_) rfl rfl rfl ?_ ?_; rotate_left; (focus ((intro w' hb0 hw'; have hb9 : Below w1.heap.size W0 w' := hb0; have c0 := (hb9.cell (p := ⟨b1, p1 + k * 5, none⟩) hb1).trans f0; have c1 := (hb9.cell (p := ⟨b1, p1 + k * 5 + 1, none⟩) hb1).trans f1; have c2 := (hb9.cell (p := ⟨b1, p1 + k * 5 + 2, none⟩) hb1).trans f2; go_simp) <;> with_reducible rfl)); simp only [Act.put, List.setIfInBounds_toArray, List.set_cons_zero, List.set_cons_succ])
          (refine pl_take (d := 33) (v := ?_) rfl rfl rfl ?_ ?_; rotate_left; (focus ((intro w' hb0 hw'; go_simp) <;> with_reducible rfl)); simp only [Act.put, List.setIfInBounds_toArray, List.set_cons_zero, List.set_cons_succ])
          (refine pl_take (d := 34) (v := ?_) rfl rfl rfl ?_ ?_; rotate_left; (focus ((intro w' hb0 hw'; go_simp) <;> with_reducible rfl)); simp only [Act.put, List.setIfInBounds_toArray, List.set_cons_zero, List.set_cons_succ])
          (refine pl_take (d := 35) (v := ?_) rfl rfl rfl ?_ ?_; rotate_left; (focus ((intro w' hb0 hw'; go_simp) <;> with_reducible rfl)); simp only [Act.put, List.setIfInBounds_toArray, List.set_cons_zero, List.set_cons_succ])
          (refine pl_take (d := 36) (v := ?_) rfl rfl rfl ?_ ?_; rotate_left; (focus ((intro w' hb0 hw'; go_simp) <;> with_reducible rfl)); simp only [Act.put, List.setIfInBounds_toArray, List.set_cons_zero, List.set_cons_succ])
          (refine pl_take (d := 37) (v := ?_) rfl rfl rfl ?_ ?_; rotate_left; (focus ((intro w' hb0 hw'; have hb9 : Below w1.heap.size W0 w' := hb0; have c0 := (hb9.cell (p := ⟨b1, p1 + k * 5, none⟩) hb1).trans f0; have c1 := (hb9.cell (p := ⟨b1, p1 + k * 5 + 1, none⟩) hb1).trans f1; have c2 := (hb9.cell (p := ⟨b1, p1 + k * 5 + 2, none⟩) hb1).trans f2; go_simp) <;> with_reducible rfl)); simp only [Act.put, List.setIfInBounds_toArray, List.set_cons_zero, List.set_cons_succ])
          (refine pl_take (d := 38) (v := ?_) rfl rfl rfl ?_ ?_; rotate_left; (focus ((intro w' hb0 hw'; go_simp) <;> with_reducible rfl)); simp only [Act.put, List.setIfInBounds_toArray, List.set_cons_zero, List.set_cons_succ])
          (refine pl_take (d := 39) (v := ?_) rfl rfl rfl ?_ ?_; rotate_left; (focus ((intro w' hb0 hw'; go_simp) <;> with_reducible rfl)); simp only [Act.put, List.setIfInBounds_toArray, List.set_cons_zero, List.set_cons_succ])
          (refine pl_take (d := 40) (v := ?_) rfl rfl rfl ?_ ?_; rotate_left; (focus ((intro w' hb0 hw'; go_simp) <;> with_reducible rfl)); simp only [Act.put, List.setIfInBounds_toArray, List.set_cons_zero, List.set_cons_succ])
          (refine pl_take (d := 41) (v := ?_) rfl rfl rfl ?_ ?_; rotate_left; (focus ((intro w' hb0 hw'; go_simp) <;> with_reducible rfl)); simp only [Act.put, List.setIfInBounds_toArray, List.set_cons_zero, List.set_cons_succ])
          (refine pl_take (d := 42) (v := ?_) rfl rfl rfl ?_ ?_; rotate_left; (focus ((intro w' hb0 hw'; have hb9 : Below w1.heap.size W0 w' := hb0; have c0 := (hb9.cell (p := ⟨b1, p1 + k * 5, none⟩) hb1).trans f0; have c1 := (hb9.cell (p := ⟨b1, p1 + k * 5 + 1, none⟩) hb1).trans f1; have c2 := (hb9.cell (p := ⟨b1, p1 + k * 5 + 2, none⟩) hb1).trans f2; go_simp) <;> with_reducible rfl)); simp only [Act.put, List.setIfInBounds_toArray, List.set_cons_zero, List.set_cons_succ])
          (refine pl_take (d := 43) (v := ?_) rfl rfl rfl ?_ ?_; rotate_left; (focus ((intro w' hb0 hw'; go_simp) <;> with_reducible rfl)); simp only [Act.put, List.setIfInBounds_toArray, List.set_cons_zero, List.set_cons_succ])
          refine pl_one rfl rfl (fun K hK => ?_)
          go_simp
          refine hK _ _ ((Below.refl _ _).alloc hz0 _ : Below w1.heap.size W0 _) ?_
          have hO2 := hO0.alloc (.cells [Value.string x, .string val, .int .i64 ver, .bool false].toArray 44)
          have hN2 := Blk.new W0 [Value.string x, .string val, .int .i64 ver, .bool false] 44
          have hb2 := hbW0.alloc hbW0.size (.cells [Value.string x, .string val, .int .i64 ver, .bool false].toArray 44)
          have hz2 : w1.heap.size ≤ (W0.alloc (.cells [Value.string x, .string val, .int .i64 ver, .bool false].toArray 44)).heap.size := by simp; omega
          clear hK
          refine pl_one rfl rfl (fun K hK => ?_)
          have hlen := HLEN.out
          refine wp_app el26 (by rfl) (by rfl) hO2 (by rfl) (m := 1) rfl hN2.cells (by simp [Value.oneCell']) (by simp [maxLen]; omega) (by omega) hz2 ?_
          intro v3 W3 hO3 hg3
          have hb3 := hO2.below hg3 hb2 (Nat.le_refl _) hz2
          refine hK _ _ (hO2.below hg3 (Below.refl _ _) (Nat.le_refl _) hz2 : Below w1.heap.size _ W3) ?_
          clear hK
          (refine pl_take (d := 4) (v := ?_) rfl rfl rfl ?_ ?_; rotate_left; (focus ((intro w' hb0 hw'; go_simp) <;> with_reducible rfl)); simp only [Act.put, List.setIfInBounds_toArray, List.set_cons_zero, List.set_cons_succ])
          refine pl_end ?_
          have HO3 := Lib.hid hO3; have HB3 := Lib.hid hb3
          clear hO3 hg3 hb3 hlen hO2 hN2 hb2 hz2 hO0 hbW0 hz0 f0 f1 f2
          go_wp2
          go_roundw
          case measure => (simp [intOf]) <;> omega
          case rel =>
            refine ⟨k + 1, by omega, rfl, Lib.hid ?_, HB3⟩
            rw [HT.out]
            simpa [It.cells] using HO3.out
    · obtain rfl : k = A.length := by omega
      rw [List.take_length] at hO
      obtain ⟨o', c', rfl, hR⟩ := Own.rws hO.out rfl
      have hbb := below_step HB1.out hbel.out
      have HR := Lib.hid hR; have HB := Lib.hid hbb; clear hR hbb hbel hO
      go_wp2
      refine bodyPost_ret (v := .slice o' (mapUp A).length c') (by simp [results, Try.results11, go_sem]) rfl ⟨⟨o', c', by rw [HMD.out], by rw [HMD.out]; exact HR.out⟩, HB.out⟩

theorem refKeys14 (l : List Res) (w : World) (oa : Option Addr) (n c : Nat) (h : RRes w oa n c l) (hl : l.length ≤ 900) :
    Calls Try.prog 14 #[.slice oa n c] w fun r w' => (∃ o' c', r = .returned (.slice o' (keysOf l).length c') ∧ RStr w' o' (keysOf l).length c' (keysOf l)) ∧ Below w.heap.size w w' := by
  obtain rfl : n = l.length := h.rows.len
  have H := Lib.hid h; have HL := Lib.hid hl; clear h hl
  go_enter Try.func14, Try.ntmps14
  go_wp2_with fail
  refine (states23 l w oa _ c H.out HL.out).mono ?_
  rintro r w1 ⟨⟨ok, ck, rfl, hRk⟩, hb1⟩
  obtain ⟨A, hA⟩ : ∃ A, stsOf l = A := ⟨_, rfl⟩
  have hlk2 : A.length ≤ 900 := by have := stsOf_len l; have := HL.out; rw [← hA]; omega
  have HMD : Hid (keysOf l = A.map Prod.fst) := by show _ = _; rw [← hA]; simp [stsOf, Function.comp_def]
  rw [hA] at hRk ⊢
  clear hA
  have HRK := Lib.hid hRk; have HB1 := Lib.hid hb1; clear hRk hb1
  have HLK2 := Lib.hid hlk2; clear hlk2
  go_wp2
  go_loopw [4, 5] (fun v u wr => ∃ k : Nat, k ≤ A.length ∧ u = .int .i64 k ∧ Hid (Own wr w1.heap.size 9 1 v ((A.take k).map Prod.fst).length (((A.take k).map Prod.fst).flatMap str1)) ∧ Hid (Below w1.heap.size w1 wr)) (fun _ u _ => A.length - (intOf u).toNat)
  case atStart => exact ⟨0, by omega, rfl, Lib.hid (Own.nil _ _ _ _), Lib.hid (Below.refl _ _)⟩
  case round =>
    obtain ⟨k, hk, rfl, hO, hbel⟩ := hrel
    by_cases hlt : k < A.length
    · have hi1 : (k : Int) < (A.length : Int) := by omega
      have rk : IntKind.i64.wrap ((k : Int) + 1) = ((k + 1 : Nat) : Int) := by
        have h1 := HLK2.out
        rw [IntKind.wrap_i64]; omega
      obtain ⟨b1, p1, rfl, hb1, e0, -, -, -, -⟩ := HRK.out.rows.ks hlt
      replace e0 := (hbel.out.cell (p := ⟨b1, p1 + k * 5, none⟩) hb1).trans e0
      have HT : Hid ((A.take (k + 1)).map Prod.fst = (A.take k).map Prod.fst ++ [A[k].1]) := by show _ = _; rw [List.take_succ_eq_append_getElem hlt, List.map_append]; rfl
      obtain ⟨q, hq⟩ : ∃ q, A[k] = q := ⟨_, rfl⟩
      rw [hq] at e0 HT
      clear hq
      obtain ⟨x, s⟩ := q
      simp only at e0 HT
      have hlm : ((A.take k).map Prod.fst).length ≤ 900 := by have h2 := HLK2.out; simp; omega
      obtain ⟨M, hM⟩ : ∃ M, (A.take k).map Prod.fst = M := ⟨_, rfl⟩
      rw [hM] at hO HT hlm
      have HLEN := Lib.hid hlm
      clear hM hlm
      have hal : Below wr.heap.size wr (wr.alloc (.cells [Value.string x].toArray 9)) := (Below.refl _ _).alloc (Nat.le_refl _) _
      have hN5 : Blk (wr.alloc (.cells [Value.string x].toArray 9)) wr.heap.size [Value.string x] := Blk.new' rfl
      have hO5 := hO.out.later hal
      have hbel5 := below_step hbel.out hal
      have HO5 := Lib.hid hO5; have HB5 := Lib.hid hbel5; have HN5 := Lib.hid hN5
      have hb1r : b1 < wr.heap.size := Nat.lt_of_lt_of_le hb1 hbel.out.size
      clear hO5 hbel5 hN5 hal hO hbel
      go_wp2_with (refine stop_append rfl ?_)
      have hlen := HLEN.out
      refine ⟨wpList_app el29 rfl (by rfl) (by rfl) HO5.out (by rfl) (m := 1) rfl HN5.out.cells (by simp [Value.oneCell']) (by simp [maxLen]; omega) (by omega) HB5.out.size ?_⟩
      intro v6 W6 hO6 hg6
      have hb6 := HO5.out.below hg6 HB5.out (Nat.le_refl _) HB5.out.size
      have HO6 := Lib.hid hO6; have HB6 := Lib.hid hb6
      clear hO6 hg6 hb6 hlen HO5 HN5 HB5
      go_wp2
      go_roundw
      case measure => (simp [intOf]) <;> omega
      case rel =>
        refine ⟨k + 1, by omega, rfl, Lib.hid ?_, HB6⟩
        rw [HT.out]
        simpa [str1] using HO6.out
    · obtain rfl : k = A.length := by omega
      rw [List.take_length] at hO
      obtain ⟨o', c', rfl, hR⟩ := Own.rws hO.out rfl
      have hbb := below_step HB1.out hbel.out
      have HR := Lib.hid hR; have HB := Lib.hid hbb; clear hR hbb hbel hO
      go_wp2
      refine bodyPost_ret (v := .slice o' (A.map Prod.fst).length c') (by simp [results, Try.results14, go_sem]) rfl ⟨⟨o', c', by rw [HMD.out], by rw [HMD.out]; exact HR.out⟩, HB.out⟩
end Go.Proofs.Ytnfkjicoielpnaa
