/-
  Walks: pairs of names.
-/
import Derived.Test.YthobmcpilfalgaaWg
import Derived.ChangeKeysEq
namespace Go.Proofs.Ythobmcpilfalgaa
open Go.RowKit Go.Proofs.Ythobmcpilfalgaa.Plan Go.Proofs.Ythobmcpilfalgaa.Eager
set_option maxHeartbeats 2000000
set_option maxRecDepth 20000
set_option linter.unusedVariables false
set_option linter.unusedSimpArgs false

abbrev PP := ByteArray × ByteArray
def pp (p : PP) : List Value := [.string p.1, .string p.2]
theorem el28 : Elem Try.prog 28 30 2 32 := Elem.of (.agg #[.string ⟨#[]⟩, .string ⟨#[]⟩]) rfl (by kernel_rfl) rfl (by omega)
theorem row30 : RowTy Try.prog 30 2 := ⟨⟨_, rfl, rfl⟩, by kernel_rfl⟩
abbrev RPP := Rws pp
theorem RowsOf.pp {w : World} {oa : Option Addr} {n : Nat} {l : List PP} (h : RowsOf Go.Proofs.Ythobmcpilfalgaa.pp w oa n l) {i : Nat} (hi : i < l.length) :
    ∃ b o, oa = some ⟨b, o, none⟩ ∧ b < w.heap.size ∧ w.cell? ⟨b, o + i * 2, none⟩ = some (.string l[i].1) ∧ w.cell? ⟨b, o + i * 2 + 1, none⟩ = some (.string l[i].2) := by
  obtain ⟨b, o, e, hlt, hc⟩ := h.elem (k := 2) (fun _ => rfl) (by omega) hi
  exact ⟨b, o, e, hlt, hc 0 (by omega), hc 1 (by omega)⟩
theorem strpeq (a b : ByteArray) : (a.toList = b.toList) ↔ a = b := by
  rw [ByteArray.toList_eq, ByteArray.toList_eq]
  constructor
  · intro h; cases a; cases b; simpa using h
  · intro h; rw [h]

theorem eq30 (a1 a2 b1 b2 : ByteArray) (w : World) : (Op.equalIn 10000 30 (.agg #[.string a1, .string a2]) (.agg #[.string b1, .string b2])).run Try.prog w = .ok (decide ((a1, a2) = (b1, b2))) w := by
  have hc : Try.prog.cellsOf 9 = 1 := by kernel_rfl
  rw [show (10000 : Nat) = 9999 + 1 from rfl, run_equalIn_array (P := Try.prog) (w := w) 9999 (t := 30) (e := 9) (n := 2) _ _ (by kernel_rfl) rfl, hc]
  rw [show List.range 2 = [0, 1] from rfl]
  simp only [Op.eqItems]
  go_simp
  by_cases h1 : a1 = b1 <;> by_cases h2 : a2 = b2 <;> simp [strpeq, h1, h2]
theorem index33 (l : List PP) (x1 x2 : ByteArray) (w : World) (oa : Option Addr) (n c : Nat) (h : RPP w oa n c l) :
    Calls Try.prog 33 #[.slice oa n c, .agg #[.string x1, .string x2]] w fun r w' => (∃ i : Int, r = .returned (.int .i64 i) ∧ (decide (0 ≤ i) = decide ((x1, x2) ∈ l))) ∧ Below w.heap.size w w' := by
  obtain rfl : n = l.length := h.rows.len
  have hb0 : Below w.heap.size w (w.alloc (.cells #[.string x1, .string x2] 30)) := by (with_reducible try refine Lib.hid ?_); (repeat (with_reducible first | assumption | exact Below.refl _ _ | apply Below.drew | apply Below.drewN' | apply Below.setCell | apply Below.alloc)) <;> (try simp [length_fillTo, length_turnTo]) <;> (try omega)
  have hX : Blk (w.alloc (.cells #[.string x1, .string x2] 30)) w.heap.size [.string x1, .string x2] := Blk.new' rfl
  have H := Lib.hid h; have HB := Lib.hid hb0; have HX := Lib.hid hX; clear h hb0 hX
  go_enter Try.func33, Try.ntmps33
  go_wp2
  go_loopw [5, 8] (fun _ i wr => ∃ k : Nat, k ≤ l.length ∧ i = .int .i64 k ∧ Hid (∀ j (h : j < l.length), j < k → l[j] ≠ (x1, x2)) ∧ Hid (Blk wr w.heap.size [.string x1, .string x2]) ∧ Hid (Below w.heap.size w wr)) (fun _ i _ => l.length - (intOf i).toNat)
  case atStart => exact ⟨0, by omega, rfl, Lib.hid (fun j _ h => by omega), HX, HB⟩
  case round =>
    obtain ⟨k, hk, rfl, hS, hX, hbel⟩ := hrel
    by_cases hlt : k < l.length
    · have hi1 : (k : Int) < (l.length : Int) := by omega
      have rk : IntKind.i64.wrap ((k : Int) + 1) = ((k + 1 : Nat) : Int) := by
        have h1 := H.out.le; have h2 := H.out.cap
        simp only [maxLen] at h2
        rw [IntKind.wrap_i64]; omega
      obtain ⟨b1, p1, rfl, hb1, e0, e1⟩ := H.out.rows.pp hlt
      have HM : Hid (l[k] ∈ l) := List.getElem_mem hlt
      have HS2 : Hid (l[k] ≠ (x1, x2) → ∀ j (h : j < l.length), j < k + 1 → l[j] ≠ (x1, x2)) := by
        intro ht j hj hjk
        by_cases e : j = k
        · subst e; exact ht
        · exact hS.out j hj (by omega)
      obtain ⟨t, ht'⟩ : ∃ t, l[k] = t := ⟨_, rfl⟩
      rw [ht'] at e0 e1 HM HS2
      clear ht'
      obtain ⟨y1, y2⟩ := t
      have E0 := Lib.hid e0; have E1 := Lib.hid e1
      clear e0 e1
      obtain ⟨wA, rfl⟩ : ∃ x, x = wr := ⟨_, rfl⟩
      by_cases ht : (y1, y2) = (x1, x2)
      · obtain ⟨rfl, rfl⟩ : y1 = x1 ∧ y2 = x2 := by simpa using ht
        clear hS HS2
        go_wp2
        refine wp_region_plan none [] [] (.take 0 (.take 1 (.take 2 (.take 3 (.take 4 (.take 5 .done)))))) (by kernel_rfl) (by kernel_rfl) (fun _ _ dd _ _ h => by cases dd <;> exact h) ?_
        intro W0 hW0
        have hX0 : Blk W0 w.heap.size [.string y1, .string y2] := by rw [hW0]; exact hX.out.drew
        have hbW : Below w.heap.size w W0 := by rw [hW0]; exact hbel.out.drew
        have f0 : W0.cell? ⟨b1, p1 + k * 2, none⟩ = _ := (hbW.cell (p := ⟨b1, p1 + k * 2, none⟩) hb1).trans E0.out
        have f1 : W0.cell? ⟨b1, p1 + k * 2 + 1, none⟩ = _ := (hbW.cell (p := ⟨b1, p1 + k * 2 + 1, none⟩) hb1).trans E1.out
        clear hW0
        (refine pl_take (d := 11) (v := ?_) rfl rfl rfl ?_ ?_; rotate_left; (focus ((intro w' hb0 hw'; have hc := hX0.later hw'; have c0 := hc.at' 0 (by simp); have c1 := hc.at' 1 (by simp); simp only [List.getElem_cons_succ, List.getElem_cons_zero] at c0 c1; go_simp) <;> with_reducible rfl)); simp only [Act.put, List.setIfInBounds_toArray, List.set_cons_zero, List.set_cons_succ])
        (refine pl_take (d := 12) (v := ?_) rfl rfl rfl ?_ ?_; rotate_left; (focus ((intro w' hb0 hw'; go_simp) <;> with_reducible rfl)); simp only [Act.put, List.setIfInBounds_toArray, List.set_cons_zero, List.set_cons_succ])
        (refine pl_take (d := 13) (v := ?_) rfl rfl rfl ?_ ?_; rotate_left; (focus ((intro w' hb0 hw'; go_simp) <;> with_reducible rfl)); simp only [Act.put, List.setIfInBounds_toArray, List.set_cons_zero, List.set_cons_succ])
        (refine pl_take (d := 14) (v := ?_) rfl rfl rfl ?_ ?_; rotate_left; (focus ((intro w' hb0 hw'; go_simp) <;> with_reducible rfl)); simp only [Act.put, List.setIfInBounds_toArray, List.set_cons_zero, List.set_cons_succ])
        (refine pl_take (d := 15) (v := ?_) rfl rfl rfl ?_ ?_; rotate_left; (focus ((intro w' hb0 hw'; have c0 := cell_later f0 hw'; have c1 := cell_later f1 hw'; go_simp) <;> with_reducible rfl)); simp only [Act.put, List.setIfInBounds_toArray, List.set_cons_zero, List.set_cons_succ])
        refine pl_take (d := 16) (v := .bool true) rfl rfl rfl ?_ ?_
        · intro w' hb0 hw'
          have he := eq30 y1 y2 y1 y2 w'
          rw [decide_eq_true rfl] at he
          go_simp
        simp only [Act.put, List.setIfInBounds_toArray, List.set_cons_zero, List.set_cons_succ]
        refine pl_end ?_
        go_wp2
        refine bodyPost_ret (v := .int .i64 (k : Int)) (by simp [results, Try.results33, go_sem]) rfl ⟨⟨_, rfl, by rw [decide_eq_true HM.out]; exact decide_eq_true (by omega)⟩, hbW⟩
      · have hne : ¬ (x1, x2) = (y1, y2) := fun e => ht e.symm
        have HS3 := Lib.hid (HS2.out ht)
        have HNE : Hid (¬ (x1, x2) = (y1, y2)) := hne
        clear hS HS2 ht hne
        go_wp2
        refine wp_region_plan none [] [] (.take 0 (.take 1 (.take 2 (.take 3 (.take 4 (.take 5 .done)))))) (by kernel_rfl) (by kernel_rfl) (fun _ _ dd _ _ h => by cases dd <;> exact h) ?_
        intro W0 hW0
        have hX0 : Blk W0 w.heap.size [.string x1, .string x2] := by rw [hW0]; exact hX.out.drew
        have hbW : Below w.heap.size w W0 := by rw [hW0]; exact hbel.out.drew
        have f0 : W0.cell? ⟨b1, p1 + k * 2, none⟩ = _ := (hbW.cell (p := ⟨b1, p1 + k * 2, none⟩) hb1).trans E0.out
        have f1 : W0.cell? ⟨b1, p1 + k * 2 + 1, none⟩ = _ := (hbW.cell (p := ⟨b1, p1 + k * 2 + 1, none⟩) hb1).trans E1.out
        clear hW0
        (refine pl_take (d := 11) (v := ?_) rfl rfl rfl ?_ ?_; rotate_left; (focus ((intro w' hb0 hw'; have hc := hX0.later hw'; have c0 := hc.at' 0 (by simp); have c1 := hc.at' 1 (by simp); simp only [List.getElem_cons_succ, List.getElem_cons_zero] at c0 c1; go_simp) <;> with_reducible rfl)); simp only [Act.put, List.setIfInBounds_toArray, List.set_cons_zero, List.set_cons_succ])
        (refine pl_take (d := 12) (v := ?_) rfl rfl rfl ?_ ?_; rotate_left; (focus ((intro w' hb0 hw'; go_simp) <;> with_reducible rfl)); simp only [Act.put, List.setIfInBounds_toArray, List.set_cons_zero, List.set_cons_succ])
        (refine pl_take (d := 13) (v := ?_) rfl rfl rfl ?_ ?_; rotate_left; (focus ((intro w' hb0 hw'; go_simp) <;> with_reducible rfl)); simp only [Act.put, List.setIfInBounds_toArray, List.set_cons_zero, List.set_cons_succ])
        (refine pl_take (d := 14) (v := ?_) rfl rfl rfl ?_ ?_; rotate_left; (focus ((intro w' hb0 hw'; go_simp) <;> with_reducible rfl)); simp only [Act.put, List.setIfInBounds_toArray, List.set_cons_zero, List.set_cons_succ])
        (refine pl_take (d := 15) (v := ?_) rfl rfl rfl ?_ ?_; rotate_left; (focus ((intro w' hb0 hw'; have c0 := cell_later f0 hw'; have c1 := cell_later f1 hw'; go_simp) <;> with_reducible rfl)); simp only [Act.put, List.setIfInBounds_toArray, List.set_cons_zero, List.set_cons_succ])
        refine pl_take (d := 16) (v := .bool false) rfl rfl rfl ?_ ?_
        · intro w' hb0 hw'
          have he := eq30 x1 x2 y1 y2 w'
          rw [decide_eq_false HNE.out] at he
          go_simp
        simp only [Act.put, List.setIfInBounds_toArray, List.set_cons_zero, List.set_cons_succ]
        refine pl_end ?_
        go_wp2
        go_roundw
        case measure => (simp [intOf]) <;> omega
        case rel => exact ⟨k + 1, by omega, rfl, HS3, Lib.hid hX0, Lib.hid hbW⟩
    · obtain rfl : k = l.length := by omega
      have HF : Hid ((x1, x2) ∉ l) := fun hx => by
        obtain ⟨j, hj, e⟩ := List.getElem_of_mem hx
        exact hS.out j hj hj e
      have hb1 := hbel.out
      clear hS
      go_wp2
      refine bodyPost_ret (v := .int .i64 (-1)) (by simp [results, Try.results33, go_sem]) rfl ⟨⟨_, rfl, by rw [decide_eq_false HF.out]; rfl⟩, hb1⟩

theorem contains26 (l : List PP) (x1 x2 : ByteArray) (w : World) (oa : Option Addr) (n c : Nat) (h : RPP w oa n c l) :
    Calls Try.prog 26 #[.slice oa n c, .agg #[.string x1, .string x2]] w fun r w' => r = .returned (.bool (decide ((x1, x2) ∈ l))) ∧ Below w.heap.size w w' := by
  have hb0 : Below w.heap.size w (w.alloc (.cells #[.string x1, .string x2] 30)) := by (with_reducible try refine Lib.hid ?_); (repeat (with_reducible first | assumption | exact Below.refl _ _ | apply Below.drew | apply Below.drewN' | apply Below.setCell | apply Below.alloc)) <;> (try simp [length_fillTo, length_turnTo]) <;> (try omega)
  have HR := Lib.hid (h.below hb0); have HB0 := Lib.hid hb0; clear h hb0
  go_enter Try.func26, Try.ntmps26
  go_wp2_with fail
  refine (index33 l x1 x2 _ oa n c HR.out).mono ?_
  rintro r w1 ⟨⟨i, rfl, hi⟩, hb⟩
  have HI := Lib.hid hi; have HB := Lib.hid (below_step HB0.out hb); clear hi hb
  go_wp2
  refine bodyPost_ret (v := .bool (decide (0 ≤ i))) (by simp [results, Try.results26, go_sem]) rfl ⟨by rw [HI.out], HB.out⟩

def prs (l : List Pk) : List PP := l.map fun p => (p.frm, p.to)
theorem pp_oneCells (l : List PP) : ∀ u ∈ l.flatMap pp, u.oneCell' = true := by
  intro u hu
  obtain ⟨p, -, hp⟩ := List.mem_flatMap.1 hu
  simp [pp] at hp
  rcases hp with rfl | rfl <;> rfl
theorem pairs10 (l : List Pk) (w : World) (oa : Option Addr) (n c : Nat) (h : Pks w oa n c l) (hl : l.length ≤ 900) :
    Calls Try.prog 10 #[.slice oa n c] w fun r w' => (∃ o' c', r = .returned (.slice o' (firsts (prs l)).length c') ∧ RPP w' o' (firsts (prs l)).length c' (firsts (prs l))) ∧ Below w.heap.size w w' := by
  obtain rfl : n = l.length := h.rows.len
  have H := Lib.hid h; have HL := Lib.hid hl; clear h hl
  have HFL : Hid ((prs l).length = l.length) := by show _ = _; simp [prs]
  go_enter Try.func10, Try.ntmps10
  go_wp2
  go_loopw [3, 5, 6, 9] (fun v _ _ i wr => ∃ k : Nat, k ≤ l.length ∧ i = .int .i64 k ∧ Hid (Own wr w.heap.size 30 2 v (firsts ((prs l).take k)).length ((firsts ((prs l).take k)).flatMap pp)) ∧ Hid (Below w.heap.size w wr)) (fun _ _ _ i _ => l.length - (intOf i).toNat)
  case atStart => exact ⟨0, by omega, rfl, Lib.hid (Own.nil _ _ _ _), by (with_reducible try refine Lib.hid ?_); (repeat (with_reducible first | assumption | exact Below.refl _ _ | apply Below.drew | apply Below.drewN' | apply Below.setCell | apply Below.alloc)) <;> (try simp [length_fillTo, length_turnTo]) <;> (try omega)⟩
  case round =>
    obtain ⟨k, hk, rfl, hO, hbel⟩ := hrel
    by_cases hlt : k < l.length
    · have hi1 : (k : Int) < (l.length : Int) := by omega
      have rk : IntKind.i64.wrap ((k : Int) + 1) = ((k + 1 : Nat) : Int) := by
        have h1 := HL.out
        rw [IntKind.wrap_i64]; omega
      have hlen : (firsts ((prs l).take k)).length ≤ 900 := by
        have h1 := firsts_len ((prs l).take k)
        have h2 := HL.out
        simp only [List.length_take] at h1
        omega
      have HLEN := Lib.hid hlen; clear hlen
      have HT := Lib.hid (firsts_succ (prs l) (k := k) (by rw [HFL.out]; exact hlt))
      have hfk : (prs l)[k]'(by rw [HFL.out]; exact hlt) = (l[k].frm, l[k].to) := by simp [prs]
      rw [hfk] at HT
      obtain ⟨b1, p1, rfl, hb1, e0, e1, e2⟩ := (H.out.rows.below hbel.out).pk hlt
      obtain ⟨q1, hq1'⟩ : ∃ q, l[k] = q := ⟨_, rfl⟩
      rw [hq1'] at e0 e1 e2 HT
      clear hq1' hfk
      obtain ⟨x1, x2, po, pn, pc, pb⟩ := q1
      simp only at e0 e1 e2 HT
      obtain ⟨L, hL⟩ : ∃ L, firsts ((prs l).take k) = L := ⟨_, rfl⟩
      rw [hL] at hO HT HLEN
      clear hL
      obtain ⟨wA, rfl⟩ : ∃ x, x = wr := ⟨_, rfl⟩
      have hal : Below wA.heap.size wA ((wA.alloc (.cells (Pk.cells ⟨x1, x2, po, pn, pc, pb⟩).toArray 51)).alloc (.cells #[.string x1, .string x2] 30)) := by (with_reducible try refine Lib.hid ?_); (repeat (with_reducible first | assumption | exact Below.refl _ _ | apply Below.drew | apply Below.drewN' | apply Below.setCell | apply Below.alloc)) <;> (try simp [length_fillTo, length_turnTo]) <;> (try omega)
      have hX : Blk ((wA.alloc (.cells (Pk.cells ⟨x1, x2, po, pn, pc, pb⟩).toArray 51)).alloc (.cells #[.string x1, .string x2] 30)) (wA.heap.size + 1) [.string x1, .string x2] := Blk.new' (by simp)
      have hO1 := hO.out.later hal
      have hb1' := below_step hbel.out hal
      obtain ⟨o', c', rfl, hR⟩ := Own.rws hO1 rfl
      have HR := Lib.hid hR; have HO1 := Lib.hid hO1; have HB1 := Lib.hid hb1'; have HX := Lib.hid hX
      clear hR hO1 hb1' hX hal hO hbel
      go_wp2_with (first | fail)
      refine (contains26 L x1 x2 _ _ _ _ HR.out).mono ?_
      rintro r w2 ⟨rfl, hb2⟩
      have hO2 := HO1.out.later hb2
      have hB2 := below_step HB1.out hb2
      have hX2 := HX.out.later hb2
      have x3 := hX2.at' 0 (by simp); have x4 := hX2.at' 1 (by simp)
      simp only [List.getElem_cons_zero, List.getElem_cons_succ] at x3 x4
      have hx2 := hX2.lt
      have HO2 := Lib.hid hO2; have HB2 := Lib.hid hB2
      clear hO2 hB2 hb2 HX HO1 HB1 HR hX2 e0 e1 e2
      by_cases hm : (x1, x2) ∈ L
      · have HT2 : Hid (firsts ((prs l).take (k + 1)) = L) := by show _ = _; rw [HT.out]; unfold addKey; rw [if_pos hm]
        rw [decide_eq_true hm]
        clear HT hm
        go_wp2
        go_roundw
        case measure => (simp [intOf]) <;> omega
        case rel => exact ⟨k + 1, by omega, rfl, Lib.hid (by rw [HT2.out]; exact HO2.out), HB2⟩
      · have HT2 : Hid (firsts ((prs l).take (k + 1)) = L ++ [(x1, x2)]) := by show _ = _; rw [HT.out]; unfold addKey; rw [if_neg hm]
        rw [decide_eq_false hm]
        clear HT hm
        have hN3 : Blk (w2.alloc (.cells [Value.string x1, .string x2].toArray 30)) w2.heap.size [Value.string x1, .string x2] := Blk.new' rfl
        have hal2 : Below w2.heap.size w2 (w2.alloc (.cells [Value.string x1, .string x2].toArray 30)) := (Below.refl _ _).alloc (Nat.le_refl _) _
        have hO3 := HO2.out.later hal2
        have hB3 := below_step HB2.out hal2
        have HN3 := Lib.hid hN3; have HO3 := Lib.hid hO3; have HB3 := Lib.hid hB3
        clear hN3 hal2 hO3 hB3 HO2 HB2
        go_wp2_with (refine stop_append rfl ?_)
        have hlen := HLEN.out
        refine ⟨wpList_app el28 rfl (by rfl) (by rfl) HO3.out (by rfl) (m := 1) rfl HN3.out.cells (by simp [Value.oneCell']) (by simp [maxLen]; omega) (by omega) HB3.out.size ?_⟩
        intro v4 W4 hO4 hg4
        have hb4 := HO3.out.below hg4 HB3.out (Nat.le_refl _) HB3.out.size
        have HO4 := Lib.hid hO4; have HB4 := Lib.hid hb4
        clear hO4 hg4 hb4 hlen HO3 HN3 HB3 x3 x4
        go_wp2
        go_roundw
        case measure => (simp [intOf]) <;> omega
        case rel =>
          refine ⟨k + 1, by omega, rfl, Lib.hid ?_, HB4⟩
          rw [HT2.out]
          simpa [pp] using HO4.out
    · obtain rfl : k = l.length := by omega
      have hf : (prs l).take l.length = prs l := by rw [← HFL.out, List.take_length]
      rw [hf] at hO
      obtain ⟨o', c', rfl, hR⟩ := Own.rws hO.out rfl
      have HR := Lib.hid hR; have HB := hbel; clear hR hbel hO
      go_wp2
      refine bodyPost_ret (v := .slice o' (firsts (prs l)).length c') (by simp [results, Try.results10, go_sem]) rfl ⟨⟨o', c', rfl, HR.out⟩, HB.out⟩
end Go.Proofs.Ythobmcpilfalgaa
