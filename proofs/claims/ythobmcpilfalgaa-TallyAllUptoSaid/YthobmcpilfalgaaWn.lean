/-
  The law's walk: all names' packets, two lists.
-/
import Derived.Test.YthobmcpilfalgaaWm
namespace Go.Proofs.Ythobmcpilfalgaa
open Go.RowKit Go.Proofs.Ythobmcpilfalgaa.Plan Go.Proofs.Ythobmcpilfalgaa.Eager
set_option maxHeartbeats 4000000
set_option maxRecDepth 20000
set_option linter.unusedVariables false
set_option linter.unusedSimpArgs false

theorem pk_oneCells (l : List Pk) : ∀ u ∈ l.flatMap Pk.cells, u.oneCell' = true := by
  intro u hu
  obtain ⟨p, -, hp⟩ := List.mem_flatMap.1 hu
  simp [Pk.cells] at hp
  rcases hp with rfl | rfl | rfl <;> rfl
theorem pk_len (l : List Pk) : (l.flatMap Pk.cells).length = l.length * 3 := flat_length (k := 3) (fun _ => rfl) l

theorem Own.grown' {w w' : World} {base : Nat} {e : TypeId} {size : Nat} {v : Value} {n : Nat} {xs : List Value} {row : Option Nat} (h : Own w base e size v n xs) (hg : w.grownBy w' row) (hne : ∀ b, v.ownBlock = some b → row ≠ some b) : Own w' base e size v n xs := by
  obtain ⟨h1, h2⟩ := h.row
  refine ⟨h1, ?_⟩
  rcases h2 with h2 | ⟨g, cap, cur, hv, hg', hh, r⟩
  · exact .inl h2
  · have hlt : g < w.heap.size := by
      by_cases hl : g < w.heap.size
      · exact hl
      · rw [Array.getElem?_eq_none (by omega)] at hh; cases hh
    exact .inr ⟨g, cap, cur, hv, hg', by rw [hg.block g hlt (fun e => hne g (by rw [hv]; rfl) e.symm)]; exact hh, r⟩
theorem names16b (l : List Pk) (w : World) (oa : Option Addr) (n c : Nat) (h : Pks w oa n c l) (hl : l.length ≤ 1000) :
    Calls Try.prog 16 #[.slice oa n c] w fun r w' => (∃ v, r = .returned v ∧ Own w' w.heap.size 9 1 v (namesOf l).length ((namesOf l).flatMap str1)) ∧ Below w.heap.size w w' := by
  obtain rfl : n = l.length := h.rows.len
  have H := Lib.hid h; have HL := Lib.hid hl; clear h hl
  go_enter Try.func16, Try.ntmps16
  go_wp2
  go_loopw [3, 5, 8] (fun v _ i wr => ∃ k : Nat, k ≤ l.length ∧ i = .int .i64 k ∧ Hid (Own wr w.heap.size 9 1 v (namesOf (l.take k)).length ((namesOf (l.take k)).flatMap str1)) ∧ Hid (Below w.heap.size w wr)) (fun _ _ i _ => l.length - (intOf i).toNat)
  case atStart => exact ⟨0, by omega, rfl, Lib.hid (Own.nil _ _ _ _), by (with_reducible try refine Lib.hid ?_); (repeat (with_reducible first | assumption | exact Below.refl _ _ | apply Below.drew | apply Below.drewN' | apply Below.setCell | apply Below.alloc)) <;> (try simp [length_fillTo, length_turnTo]) <;> (try omega)⟩
  case round =>
    obtain ⟨k, hk, rfl, hO, hbel⟩ := hrel
    by_cases hlt : k < l.length
    · have hi1 : (k : Int) < (l.length : Int) := by omega
      have rk : IntKind.i64.wrap ((k : Int) + 1) = ((k + 1 : Nat) : Int) := by
        have h1 := HL.out
        rw [IntKind.wrap_i64]; omega
      have hlen : (namesOf (l.take k)).length ≤ 1000 := by
        have h1 := names_len (l.take k)
        have h2 := HL.out
        simp only [List.length_take] at h1
        omega
      have HLEN := Lib.hid hlen; clear hlen
      have HT := Lib.hid (names_succ l hlt)
      obtain ⟨b1, p1, rfl, hb1, e0, e1, e2⟩ := (H.out.rows.below hbel.out).pk hlt
      obtain ⟨q1, hq1'⟩ : ∃ q, l[k] = q := ⟨_, rfl⟩
      rw [hq1'] at e0 e1 e2 HT
      clear hq1'
      obtain ⟨key, tt, po, pn, pc, pb⟩ := q1
      simp only at e0 e1 e2 HT
      obtain ⟨L, hL⟩ : ∃ L, namesOf (l.take k) = L := ⟨_, rfl⟩
      rw [hL] at hO HT HLEN
      clear hL
      have hal : Below wr.heap.size wr (wr.alloc (.cells (Pk.cells ⟨key, tt, po, pn, pc, pb⟩).toArray 51)) := (Below.refl _ _).alloc (Nat.le_refl _) _
      have hX : Blk (wr.alloc (.cells (Pk.cells ⟨key, tt, po, pn, pc, pb⟩).toArray 51)) wr.heap.size (Pk.cells ⟨key, tt, po, pn, pc, pb⟩) := Blk.new' rfl
      have hO1 := hO.out.later hal
      have hb1' := below_step hbel.out hal
      obtain ⟨o', c', rfl, hR⟩ := Own.rws hO1 rfl
      have HR := Lib.hid hR; have HO1 := Lib.hid hO1; have HB1 := Lib.hid hb1'; have HX := Lib.hid hX
      clear hR hO1 hb1' hX hal hO hbel
      go_wp2_with (first | fail)
      refine (contains29 L key _ _ _ _ HR.out).mono ?_
      rintro r w2 ⟨rfl, hb2⟩
      have hO2 := HO1.out.later hb2
      have hB2 := below_step HB1.out hb2
      have hX2 := HX.out.later hb2
      have x3 := hX2.at' 0 (by simp [Pk.cells])
      simp only [Pk.cells, List.getElem_cons_zero, List.getElem_cons_succ] at x3
      have hx2 := hX2.lt
      have HO2 := Lib.hid hO2; have HB2 := Lib.hid hB2
      clear hO2 hB2 hb2 HX HO1 HB1 HR hX2 e0 e1 e2
      by_cases hm : key ∈ L
      · have HT2 : Hid (namesOf (l.take (k + 1)) = L) := by show _ = _; rw [HT.out]; unfold addKey; rw [if_pos hm]
        rw [decide_eq_true hm]
        clear HT hm
        go_wp2
        go_roundw
        case measure => (simp [intOf]) <;> omega
        case rel => exact ⟨k + 1, by omega, rfl, Lib.hid (by rw [HT2.out]; exact HO2.out), HB2⟩
      · have HT2 : Hid (namesOf (l.take (k + 1)) = L ++ [key]) := by show _ = _; rw [HT.out]; unfold addKey; rw [if_neg hm]
        rw [decide_eq_false hm]
        clear HT hm
        have hN3 : Blk (w2.alloc (.cells [Value.string key].toArray 9)) w2.heap.size [Value.string key] := Blk.new' rfl
        have hal2 : Below w2.heap.size w2 (w2.alloc (.cells [Value.string key].toArray 9)) := (Below.refl _ _).alloc (Nat.le_refl _) _
        have hO3 := HO2.out.later hal2
        have hB3 := below_step HB2.out hal2
        have HN3 := Lib.hid hN3; have HO3 := Lib.hid hO3; have HB3 := Lib.hid hB3
        clear hN3 hal2 hO3 hB3 HO2 HB2
        go_wp2_with (refine stop_append rfl ?_)
        have hlen := HLEN.out
        refine ⟨wpList_app el27 rfl (by rfl) (by rfl) HO3.out (by rfl) (m := 1) rfl HN3.out.cells (by simp [Value.oneCell']) (by simp [maxLen]; omega) (by omega) HB3.out.size ?_⟩
        intro v4 W4 hO4 hg4
        have hb4 := HO3.out.below hg4 HB3.out (Nat.le_refl _) HB3.out.size
        have HO4 := Lib.hid hO4; have HB4 := Lib.hid hb4
        clear hO4 hg4 hb4 hlen HO3 HN3 HB3 x3
        go_wp2
        go_roundw
        case measure => (simp [intOf]) <;> omega
        case rel =>
          refine ⟨k + 1, by omega, rfl, Lib.hid ?_, HB4⟩
          rw [HT2.out]
          simpa [str1] using HO4.out
    · obtain rfl : k = l.length := by omega
      rw [List.take_length] at hO
      have HO := hO; have HB := hbel; clear hbel hO
      go_wp2
      refine bodyPost_ret (v := u3) (by simp [results, Try.results16, go_sem]) rfl ⟨⟨_, rfl, HO.out⟩, HB.out⟩
theorem tallyAll5 (l k : List Pk) (w : World) (oa : Option Addr) (n c : Nat) (ok : Option Addr) (nk ck : Nat) (h : Pks w oa n c l) (h' : Pks w ok nk ck k) (hs : ∀ p ∈ l, p.n ≤ 1048576) :
    Calls Try.prog 5 #[.slice oa n c, .slice ok nk ck] w fun r w' => r = .returned (.bool true) ∧ Below w.heap.size w w' := by
  obtain rfl : n = l.length := h.rows.len
  obtain rfl : nk = k.length := h'.rows.len
  have H := Lib.hid h; have HK := Lib.hid h'; have HSM := Lib.hid hs; clear h h' hs
  go_enter Try.func5, Try.ntmps5
  go_wp2_with fail
  refine (works7 w).mono ?_
  rintro r w1 ⟨rfl, hb⟩
  have HB := Lib.hid hb
  replace H := Lib.hid (H.out.below hb); replace HK := Lib.hid (HK.out.below hb)
  clear hb
  go_wp2_with fail
  refine (great6 l w1 oa _ c H.out).mono ?_
  rintro r w2 ⟨⟨b, rfl, hbl⟩, hb⟩
  replace HB := Lib.hid (below_step HB.out hb)
  replace H := Lib.hid (H.out.below hb); replace HK := Lib.hid (HK.out.below hb)
  have HBL := Lib.hid hbl
  clear hb hbl
  cases b with
  | true =>
    go_wp2
    refine bodyPost_ret (v := .bool true) (by simp [results, Try.results5, go_sem]) rfl ⟨rfl, HB.out⟩
  | false =>
  have hl : l.length ≤ 300 := HBL.out rfl
  have HSB := Lib.hid (bytes_small l hl HSM.out)
  have hl9 : l.length ≤ 900 := by omega
  have HL3 := Lib.hid hl
  have HL := Lib.hid hl9; clear hl hl9 HBL HSM
  go_wp2_with fail
  refine (great6 k w2 ok _ ck HK.out).mono ?_
  rintro r w3 ⟨⟨b, rfl, hbl⟩, hb⟩
  replace HB := Lib.hid (below_step HB.out hb)
  replace H := Lib.hid (H.out.below hb); replace HK := Lib.hid (HK.out.below hb)
  have HBL := Lib.hid hbl
  clear hb hbl
  cases b with
  | true =>
    go_wp2
    refine bodyPost_ret (v := .bool true) (by simp [results, Try.results5, go_sem]) rfl ⟨rfl, HB.out⟩
  | false =>
  have hkl : k.length ≤ 300 := HBL.out rfl
  have HKL := Lib.hid hkl; clear hkl HBL
  have hal : Below w3.heap.size w3 (w3.alloc (.cells t0.cells.toArray 33)) := (Below.refl _ _).alloc (Nat.le_refl _) _
  have HS : Hid (Blk (w3.alloc (.cells t0.cells.toArray 33)) w3.heap.size t0.cells) := Blk.new' rfl
  have HBE := Lib.hid hal
  have HN0 := Lib.hid (H.out.below hal)
  clear hal
  go_wp2_with fail
  refine (names16b l _ oa _ c HN0.out (by have := HL.out; omega)).mono ?_
  rintro r w4 ⟨⟨v4, rfl, hR⟩, hb⟩
  replace HS := Lib.hid (HS.out.later hb); replace HBE := Lib.hid (below_step HBE.out hb)
  have hR1 : Own w4 (w3.heap.size + 1) 9 1 v4 (namesOf l).length ((namesOf l).flatMap str1) := by simpa using hR
  have HR := Lib.hid hR1
  have HNL : Hid ((namesOf l).length ≤ 900) := by show _ ≤ _; have := names_len l; have := HL.out; omega
  have HALL := Lib.hid (names_all l)
  clear hb hR hR1 HN0
  obtain ⟨A, hA⟩ : ∃ A, namesOf l = A := ⟨_, rfl⟩
  rw [hA] at HR HNL HALL
  clear hA
  obtain ⟨o4, c4, rfl, -⟩ := Own.rws HR.out rfl
  go_wp2_with fail
  go_loopw [7, 20] (fun _ u wr => ∃ i : Nat, i ≤ A.length ∧ u = .int .i64 i ∧ Hid (Blk wr w3.heap.size (namesSum l (A.take i)).cells) ∧ Hid (Own wr (w3.heap.size + 1) 9 1 (.slice o4 A.length c4) A.length (A.flatMap str1)) ∧ Hid (Below w3.heap.size w3 wr)) (fun _ u _ => A.length - (intOf u).toNat)
  case atStart => exact ⟨0, by omega, rfl, HS, HR, HBE⟩
  case round =>
    obtain ⟨i, hi, rfl, hS, hR, hbel⟩ := hrel
    by_cases hlt : i < A.length
    · have hi1 : (i : Int) < (A.length : Int) := by omega
      have ri : IntKind.i64.wrap ((i : Int) + 1) = ((i + 1 : Nat) : Int) := by
        have h1 := HNL.out
        rw [IntKind.wrap_i64]; omega
      have HT : Hid (namesSum l (A.take (i + 1)) = addT (namesSum l (A.take i)) (tallyOf (fromL l A[i]))) := by
        show _ = _
        unfold namesSum; rw [List.take_succ_eq_append_getElem hlt, List.foldl_append]; rfl
      obtain ⟨o', c', e9, hRR⟩ := Own.rws hR.out rfl
      cases e9
      obtain ⟨b1, p1, rfl, hb1, e0⟩ := hRR.rows.str hlt
      obtain ⟨x, hx⟩ : ∃ x, A[i] = x := ⟨_, rfl⟩
      rw [hx] at e0 HT
      clear hx hRR
      obtain ⟨t, ht⟩ : ∃ t, namesSum l (A.take i) = t := ⟨_, rfl⟩
      rw [ht] at hS HT
      clear ht
      replace HT : Hid (namesSum l (A.take (i + 1)) = addT t (tallyOf (l.filter fun p => decide (p.frm = x)))) := HT.out
      go_wp2_with fail
      refine wp_region_plan none [5] [] (.take 0 (.take 1 (.take 2 (.one 3 (.one 4 (.tail [5])))))) (by kernel_rfl) (by kernel_rfl) (fun _ _ dd _ _ h => by cases dd <;> exact h) ?_
      intro W0 hW0
      have hS0 : Blk W0 w3.heap.size t.cells := by rw [hW0]; exact hS.out.drew
      have hR0 : Own W0 (w3.heap.size + 1) 9 1 (.slice (some ⟨b1, p1, none⟩) A.length c4) A.length (A.flatMap str1) := by rw [hW0]; exact hR.out.drew
      have hbW : Below w3.heap.size w3 W0 := by rw [hW0]; exact hbel.out.drew
      have hH0 : Pks W0 oa l.length c l := (H.out.below hbW)
      clear hW0
      (refine pl_take (d := 24) (v := ?_) rfl rfl rfl ?_ ?_; rotate_left; (focus ((intro w' hb0 hw'; have hc := hS0.later hw'; have c0 := hc.at' 0 (by simp [Tal.cells]); have c1 := hc.at' 1 (by simp [Tal.cells]); have c2 := hc.at' 2 (by simp [Tal.cells]); have c3 := hc.at' 3 (by simp [Tal.cells]); have c4 := hc.at' 4 (by simp [Tal.cells]); have c5 := hc.at' 5 (by simp [Tal.cells]); simp only [Tal.cells, List.getElem_cons_succ, List.getElem_cons_zero] at c0 c1 c2 c3 c4 c5; go_simp) <;> with_reducible rfl)); simp only [Act.put, List.setIfInBounds_toArray, List.set_cons_zero, List.set_cons_succ])
      (refine pl_take (d := 25) (v := ?_) rfl rfl rfl ?_ ?_; rotate_left; (focus ((intro w' hb0 hw'; go_simp) <;> with_reducible rfl)); simp only [Act.put, List.setIfInBounds_toArray, List.set_cons_zero, List.set_cons_succ])
      (refine pl_take (d := 26) (v := ?_) rfl rfl rfl ?_ ?_; rotate_left; (focus ((intro w' hb0 hw'; go_simp) <;> with_reducible rfl)); simp only [Act.put, List.setIfInBounds_toArray, List.set_cons_zero, List.set_cons_succ])
      refine pl_one rfl rfl (fun K hK => ?_)
      go_simp
      refine (from13 l x W0 oa _ c hH0 HL.out).mono ?_
      rintro r W1 ⟨rfl, hbk⟩
      refine hK _ _ (hbk : Rel none W0 W1) ?_
      clear hK
      replace hS0 := hS0.later hbk; replace hR0 := hR0.later hbk; replace hbW := below_step hbW hbk
      clear hbk
      refine pl_one rfl rfl (fun K hK => ?_)
      go_simp
      refine (add19 t (tallyOf (l.filter fun p => decide (p.frm = x))) W1).mono ?_
      rintro r W2 ⟨rfl, hbk⟩
      refine hK _ _ (hbk : Rel none W1 W2) ?_
      clear hK
      replace hS0 := hS0.later hbk; replace hR0 := hR0.later hbk; replace hbW := below_step hbW hbk
      clear hbk
      refine pl_tail ?_
      refine tl_do rfl rfl (fun K hK => ?_)
      refine wp_store_blk rfl hS0 (by rfl) (vs := (addT t (tallyOf (l.filter fun p => decide (p.frm = x)))).cells) (by rfl) row33 rfl (by simp [Tal.cells, Value.oneCell']) ?_
      intro W5 hS5 hg
      have hb5 := Below.grownB hbW hg (by simp) hbW.size
      have hR5 := hR0.grown' hg (fun b e e2 => by have := (hR0.row.lt b e).1; cases e2; omega)
      have HS5 := Lib.hid hS5; have HB5 := Lib.hid hb5; have HR5 := Lib.hid hR5
      refine hK _ _ ?_
      clear hK hS5 hb5 hg hS0 hbW hR5 hR0
      (try simp only [Act.put, List.setIfInBounds_toArray, List.set_cons_zero, List.set_cons_succ])
      refine tl_end ?_
      go_wp2_with fail
      go_roundw
      case measure => (simp [intOf]) <;> omega
      case rel => exact ⟨i + 1, by omega, rfl, Lib.hid (by rw [HT.out]; exact HS5.out), HR5, HB5⟩
    · obtain rfl : i = A.length := by omega
      rw [List.take_length, HALL.out] at hS
      have HS := hS
      replace HB := Lib.hid (below_step HB.out hbel.out)
      replace H := Lib.hid (H.out.below hbel.out); replace HK := Lib.hid (HK.out.below hbel.out)
      clear hS hbel hR
      have hal : Below wr.heap.size wr (wr.alloc (.cells ([] : List Value).toArray 51)) := (Below.refl _ _).alloc (Nat.le_refl _) _
      have HO : Hid (Own (wr.alloc (.cells ([] : List Value).toArray 51)) wr.heap.size 51 3 (.slice (some ⟨wr.heap.size, 0, none⟩) 0 0) 0 []) := Own.lit wr [] 51 3 0 (by simp) rfl _ (Nat.le_refl _)
      have HAL := Lib.hid hal
      have HS2 := Lib.hid (HS.out.later hal)
      have HH2 := Lib.hid (H.out.below hal)
      clear hal
      go_wp2_with (refine stop_append rfl ?_)
      have hl3 := HL3.out
      refine ⟨wpList_app el22 rfl (by rfl) (by rfl) HO.out (by rfl) (m := l.length) (by rw [pk_len]) HH2.out.rows.cells (pk_oneCells l) (by simp [maxLen]; omega) (by omega) HAL.out.size ?_⟩
      intro v5 W5 hO5 hg5
      have hb5 := HO.out.below hg5 HAL.out (Nat.le_refl _) HAL.out.size
      have HO5 := Lib.hid hO5; have HB5 := Lib.hid hb5
      have HK5 := Lib.hid (HK.out.below hb5)
      clear hO5 hg5 hb5 HO HAL HS2 HH2
      go_wp2_with (refine stop_append rfl ?_)
      have hk3 := HKL.out
      refine ⟨wpList_app el22 rfl (by rfl) (by rfl) HO5.out (by rfl) (m := k.length) (by rw [pk_len]) HK5.out.rows.cells (pk_oneCells k) (by simp [maxLen]; omega) (by omega) HB5.out.size ?_⟩
      intro v6 W6 hO6 hg6
      have hb6 := HO5.out.below hg6 HB5.out (Nat.le_refl _) HB5.out.size
      have HO6 := Lib.hid hO6
      replace HS := Lib.hid (HS.out.later hb6)
      replace H := Lib.hid (H.out.below hb6); replace HK := Lib.hid (HK.out.below hb6); replace HB := Lib.hid (below_step HB.out hb6)
      clear hO6 hg6 hb6 HO5 HB5 HK5 hl3 hk3
      have HADD := Lib.hid (tally_append l k)
      have HQL : Hid ((l ++ k).length ≤ 600) := by have := HL3.out; have := HKL.out; show _ ≤ _; simp; omega
      have hO7 : Own W6 wr.heap.size 51 3 v6 (l ++ k).length ((l ++ k).flatMap Pk.cells) := by simpa using HO6.out
      obtain ⟨oq, cq, rfl, hq⟩ := Own.rws hO7 rfl
      have HQ : Hid (Pks W6 oq (l ++ k).length cq (l ++ k)) := ⟨hq.rows, hq.le, hq.cap, fun p hp => by
        rcases List.mem_append.1 hp with hp | hp
        · exact H.out.ok p hp
        · exact HK.out.ok p hp⟩
      clear hO7 hq
      obtain ⟨q, hqq⟩ : ∃ q, l ++ k = q := ⟨_, rfl⟩
      rw [hqq] at HQ HADD HQL ⊢
      clear hqq
      have HPK := Lib.hid (pack_len l HL.out)
      clear HO6
      by_cases h0 : l.length = 0
      · have h0' : ((l.length : Int) == 0) = true := by rw [h0]; rfl
        clear h0
        go_wp2_with fail
        refine wp_region_plan none [] [] (.take 0 (.take 1 (.one 2 (.take 3 (.take 4 (.take 5 (.take 7 (.take 9 (.one 6 (.one 8 (.one 10 (.one 11 (.take 12 (.take 13 (.take 14 (.take 15 (.take 17 (.take 18 (.one 16 (.take 19 (.take 20 (.take 21 (.take 22 (.take 23 (.take 24 (.take 25 (.take 26 (.take 27 (.one 28 (.take 29 (.take 30 (.take 31 (.take 32 (.take 33 (.take 34 (.take 35 (.take 36 (.take 37 .done)))))))))))))))))))))))))))))))))))))) (by kernel_rfl) (by kernel_rfl) (fun _ _ dd _ _ h => by cases dd <;> exact h) ?_
        intro W0 hW0
        have hS0 : Blk W0 w3.heap.size (tallyOf l).cells := by rw [hW0]; exact HS.out.drew
        have hbW : Below w.heap.size w W0 := by rw [hW0]; exact HB.out.drew
        have hH0 : Pks W0 oa l.length c l := by rw [hW0]; exact H.out.below (below_drew _)
        have hK0 : Pks W0 ok k.length ck k := by rw [hW0]; exact HK.out.below (below_drew _)
        have hQ0 : Pks W0 oq q.length cq q := by rw [hW0]; exact HQ.out.below (below_drew _)
        clear hW0
        (refine pl_take (d := 35) (v := ?_) rfl rfl rfl ?_ ?_; rotate_left; (focus ((intro w' hb0 hw'; have hc := hS0.later hw'; have c0 := hc.at' 0 (by simp [Tal.cells]); have c1 := hc.at' 1 (by simp [Tal.cells]); have c2 := hc.at' 2 (by simp [Tal.cells]); have c3 := hc.at' 3 (by simp [Tal.cells]); have c4 := hc.at' 4 (by simp [Tal.cells]); have c5 := hc.at' 5 (by simp [Tal.cells]); simp only [Tal.cells, List.getElem_cons_succ, List.getElem_cons_zero] at c0 c1 c2 c3 c4 c5; go_simp) <;> with_reducible rfl)); simp only [Act.put, List.setIfInBounds_toArray, List.set_cons_zero, List.set_cons_succ])
        (refine pl_take (d := 36) (v := ?_) rfl rfl rfl ?_ ?_; rotate_left; (focus ((intro w' hb0 hw'; go_simp) <;> with_reducible rfl)); simp only [Act.put, List.setIfInBounds_toArray, List.set_cons_zero, List.set_cons_succ])
        refine pl_one rfl rfl (fun K hK => ?_)
        go_simp
        refine (of11 l W0 oa _ c hH0 (by have := HL.out; omega)).mono ?_
        rintro r W1 ⟨rfl, hbk⟩
        refine hK _ _ (hbk : Rel none W0 W1) ?_
        clear hK
        replace hS0 := hS0.later hbk; replace hH0 := hH0.below hbk; replace hK0 := hK0.below hbk; replace hQ0 := hQ0.below hbk; replace hbW := below_step hbW hbk
        clear hbk
        refine pl_take (d := 38) (v := .bool true) rfl rfl rfl ?_ ?_
        · intro w' hb0 hw'
          simp only [Tal.cells]
          go_simp
        simp only [Act.put, List.setIfInBounds_toArray, List.set_cons_zero, List.set_cons_succ]
        (refine pl_take (d := 39) (v := ?_) rfl rfl rfl ?_ ?_; rotate_left; (focus ((intro w' hb0 hw'; go_simp) <;> with_reducible rfl)); simp only [Act.put, List.setIfInBounds_toArray, List.set_cons_zero, List.set_cons_succ])
        (refine pl_take (d := 40) (v := ?_) rfl rfl rfl ?_ ?_; rotate_left; (focus ((intro w' hb0 hw'; go_simp) <;> with_reducible rfl)); simp only [Act.put, List.setIfInBounds_toArray, List.set_cons_zero, List.set_cons_succ])
        (refine pl_take (d := 42) (v := ?_) rfl rfl rfl ?_ ?_; rotate_left; (focus ((intro w' hb0 hw'; go_simp) <;> with_reducible rfl)); simp only [Act.put, List.setIfInBounds_toArray, List.set_cons_zero, List.set_cons_succ])
        (refine pl_take (d := 44) (v := ?_) rfl rfl rfl ?_ ?_; rotate_left; (focus ((intro w' hb0 hw'; go_simp) <;> with_reducible rfl)); simp only [Act.put, List.setIfInBounds_toArray, List.set_cons_zero, List.set_cons_succ])
        refine pl_one rfl rfl (fun K hK => ?_)
        go_simp
        refine (of11 q W1 oq _ cq hQ0 (by have := HQL.out; omega)).mono ?_
        rintro r W2 ⟨rfl, hbk⟩
        refine hK _ _ (hbk : Rel none W1 W2) ?_
        clear hK
        replace hS0 := hS0.later hbk; replace hH0 := hH0.below hbk; replace hK0 := hK0.below hbk; replace hQ0 := hQ0.below hbk; replace hbW := below_step hbW hbk
        clear hbk
        refine pl_one rfl rfl (fun K hK => ?_)
        go_simp
        refine (of11 l W2 oa _ c hH0 (by have := HL.out; omega)).mono ?_
        rintro r W3 ⟨rfl, hbk⟩
        refine hK _ _ (hbk : Rel none W2 W3) ?_
        clear hK
        replace hS0 := hS0.later hbk; replace hH0 := hH0.below hbk; replace hK0 := hK0.below hbk; replace hQ0 := hQ0.below hbk; replace hbW := below_step hbW hbk
        clear hbk
        refine pl_one rfl rfl (fun K hK => ?_)
        go_simp
        refine (of11 k W3 ok _ ck hK0 (by have := HKL.out; omega)).mono ?_
        rintro r W4 ⟨rfl, hbk⟩
        refine hK _ _ (hbk : Rel none W3 W4) ?_
        clear hK
        replace hS0 := hS0.later hbk; replace hH0 := hH0.below hbk; replace hK0 := hK0.below hbk; replace hQ0 := hQ0.below hbk; replace hbW := below_step hbW hbk
        clear hbk
        refine pl_one rfl rfl (fun K hK => ?_)
        go_simp
        refine (add19 (tallyOf l) (tallyOf k) W4).mono ?_
        rintro r W5 ⟨rfl, hbk⟩
        refine hK _ _ (hbk : Rel none W4 W5) ?_
        clear hK
        replace hS0 := hS0.later hbk; replace hH0 := hH0.below hbk; replace hK0 := hK0.below hbk; replace hQ0 := hQ0.below hbk; replace hbW := below_step hbW hbk
        clear hbk
        refine pl_take (d := 47) (v := .bool true) rfl rfl rfl ?_ ?_
        · intro w' hb0 hw'
          have he := HADD.out
          simp only [Tal.cells, he]
          go_simp
        simp only [Act.put, List.setIfInBounds_toArray, List.set_cons_zero, List.set_cons_succ]
        (refine pl_take (d := 48) (v := ?_) rfl rfl rfl ?_ ?_; rotate_left; (focus ((intro w' hb0 hw'; go_simp) <;> with_reducible rfl)); simp only [Act.put, List.setIfInBounds_toArray, List.set_cons_zero, List.set_cons_succ])
        (refine pl_take (d := 49) (v := ?_) rfl rfl rfl ?_ ?_; rotate_left; (focus ((intro w' hb0 hw'; go_simp) <;> with_reducible rfl)); simp only [Act.put, List.setIfInBounds_toArray, List.set_cons_zero, List.set_cons_succ])
        (refine pl_take (d := 50) (v := ?_) rfl rfl rfl ?_ ?_; rotate_left; (focus ((intro w' hb0 hw'; have hc := hS0.later hw'; have c0 := hc.at' 0 (by simp [Tal.cells]); have c1 := hc.at' 1 (by simp [Tal.cells]); have c2 := hc.at' 2 (by simp [Tal.cells]); have c3 := hc.at' 3 (by simp [Tal.cells]); have c4 := hc.at' 4 (by simp [Tal.cells]); have c5 := hc.at' 5 (by simp [Tal.cells]); simp only [Tal.cells, List.getElem_cons_succ, List.getElem_cons_zero] at c0 c1 c2 c3 c4 c5; go_simp) <;> with_reducible rfl)); simp only [Act.put, List.setIfInBounds_toArray, List.set_cons_zero, List.set_cons_succ])
        (refine pl_take (d := 52) (v := ?_) rfl rfl rfl ?_ ?_; rotate_left; (focus ((intro w' hb0 hw'; go_simp) <;> with_reducible rfl)); simp only [Act.put, List.setIfInBounds_toArray, List.set_cons_zero, List.set_cons_succ])
        (refine pl_take (d := 53) (v := ?_) rfl rfl rfl ?_ ?_; rotate_left; (focus ((intro w' hb0 hw'; go_simp) <;> with_reducible rfl)); simp only [Act.put, List.setIfInBounds_toArray, List.set_cons_zero, List.set_cons_succ])
        refine pl_one rfl rfl (fun K hK => ?_)
        go_simp
        refine (packets21 (tallyOf l) W5).mono ?_
        rintro r W6 ⟨rfl, hbk⟩
        refine hK _ _ (hbk : Rel none W5 W6) ?_
        clear hK
        replace hS0 := hS0.later hbk; replace hH0 := hH0.below hbk; replace hK0 := hK0.below hbk; replace hQ0 := hQ0.below hbk; replace hbW := below_step hbW hbk
        clear hbk
        refine pl_take (d := 54) (v := .bool true) rfl rfl rfl ?_ ?_
        · intro w' hb0 hw'
          have he := HPK.out
          rw [he]
          go_simp
        simp only [Act.put, List.setIfInBounds_toArray, List.set_cons_zero, List.set_cons_succ]
        (refine pl_take (d := 55) (v := ?_) rfl rfl rfl ?_ ?_; rotate_left; (focus ((intro w' hb0 hw'; go_simp) <;> with_reducible rfl)); simp only [Act.put, List.setIfInBounds_toArray, List.set_cons_zero, List.set_cons_succ])
        (refine pl_take (d := 56) (v := ?_) rfl rfl rfl ?_ ?_; rotate_left; (focus ((intro w' hb0 hw'; go_simp) <;> with_reducible rfl)); simp only [Act.put, List.setIfInBounds_toArray, List.set_cons_zero, List.set_cons_succ])
        (refine pl_take (d := 57) (v := ?_) rfl rfl rfl ?_ ?_; rotate_left; (focus ((intro w' hb0 hw'; go_simp) <;> with_reducible rfl)); simp only [Act.put, List.setIfInBounds_toArray, List.set_cons_zero, List.set_cons_succ])
        (refine pl_take (d := 58) (v := ?_) rfl rfl rfl ?_ ?_; rotate_left; (focus ((intro w' hb0 hw'; go_simp) <;> with_reducible rfl)); simp only [Act.put, List.setIfInBounds_toArray, List.set_cons_zero, List.set_cons_succ])
        (refine pl_take (d := 59) (v := ?_) rfl rfl rfl ?_ ?_; rotate_left; (focus ((intro w' hb0 hw'; go_simp) <;> with_reducible rfl)); simp only [Act.put, List.setIfInBounds_toArray, List.set_cons_zero, List.set_cons_succ])
        (refine pl_take (d := 60) (v := ?_) rfl rfl rfl ?_ ?_; rotate_left; (focus ((intro w' hb0 hw'; go_simp) <;> with_reducible rfl)); simp only [Act.put, List.setIfInBounds_toArray, List.set_cons_zero, List.set_cons_succ])
        (refine pl_skip (d := 61) rfl rfl rfl ?_; simp only [Act.put, List.setIfInBounds_toArray, List.set_cons_zero, List.set_cons_succ])
        (refine pl_skip (d := 62) rfl rfl rfl ?_; simp only [Act.put, List.setIfInBounds_toArray, List.set_cons_zero, List.set_cons_succ])
        (refine pl_skip1 (d := 63) rfl rfl rfl ?_; simp only [Act.put, List.setIfInBounds_toArray, List.set_cons_zero, List.set_cons_succ])
        (refine pl_skip (d := 64) rfl rfl rfl ?_; simp only [Act.put, List.setIfInBounds_toArray, List.set_cons_zero, List.set_cons_succ])
        (refine pl_take (d := 65) (v := ?_) rfl rfl rfl ?_ ?_; rotate_left; (focus ((intro w' hb0 hw'; go_simp) <;> with_reducible rfl)); simp only [Act.put, List.setIfInBounds_toArray, List.set_cons_zero, List.set_cons_succ])
        (refine pl_take (d := 66) (v := ?_) rfl rfl rfl ?_ ?_; rotate_left; (focus ((intro w' hb0 hw'; go_simp) <;> with_reducible rfl)); simp only [Act.put, List.setIfInBounds_toArray, List.set_cons_zero, List.set_cons_succ])
        (refine pl_skip (d := 67) rfl rfl rfl ?_; simp only [Act.put, List.setIfInBounds_toArray, List.set_cons_zero, List.set_cons_succ])
        (refine pl_skip (d := 68) rfl rfl rfl ?_; simp only [Act.put, List.setIfInBounds_toArray, List.set_cons_zero, List.set_cons_succ])
        (refine pl_skip (d := 69) rfl rfl rfl ?_; simp only [Act.put, List.setIfInBounds_toArray, List.set_cons_zero, List.set_cons_succ])
        (refine pl_take (d := 70) (v := ?_) rfl rfl rfl ?_ ?_; rotate_left; (focus ((intro w' hb0 hw'; go_simp) <;> with_reducible rfl)); simp only [Act.put, List.setIfInBounds_toArray, List.set_cons_zero, List.set_cons_succ])
        (refine pl_take (d := 71) (v := ?_) rfl rfl rfl ?_ ?_; rotate_left; (focus ((intro w' hb0 hw'; go_simp) <;> with_reducible rfl)); simp only [Act.put, List.setIfInBounds_toArray, List.set_cons_zero, List.set_cons_succ])
        (refine pl_take (d := 4) (v := ?_) rfl rfl rfl ?_ ?_; rotate_left; (focus ((intro w' hb0 hw'; go_simp) <;> with_reducible rfl)); simp only [Act.put, List.setIfInBounds_toArray, List.set_cons_zero, List.set_cons_succ])
        refine pl_end ?_
        clear hS0 hH0 hK0 hQ0
        go_wp2
        refine bodyPost_ret (v := .bool true) (by simp [results, Try.results5, go_sem]) rfl ⟨rfl, hbW⟩
      · have h0' : ((l.length : Int) == 0) = false := by rw [beq_eq_false_iff_ne]; omega
        clear h0
        by_cases hz : (tallyOf l).b = 0
        · have HZ := Lib.hid hz
          have HSH := Lib.hid (share_zero _ hz)
          clear hz
          go_wp2_with fail
          refine wp_region_plan none [] [] (.take 0 (.take 1 (.one 2 (.take 3 (.take 4 (.take 5 (.take 7 (.take 9 (.one 6 (.one 8 (.one 10 (.one 11 (.take 12 (.take 13 (.take 14 (.take 15 (.take 17 (.take 18 (.one 16 (.take 19 (.take 20 (.take 21 (.take 22 (.take 23 (.take 24 (.take 25 (.take 26 (.take 27 (.one 28 (.take 29 (.take 30 (.take 31 (.take 32 (.take 33 (.take 34 (.take 35 (.take 36 (.take 37 .done)))))))))))))))))))))))))))))))))))))) (by kernel_rfl) (by kernel_rfl) (fun _ _ dd _ _ h => by cases dd <;> exact h) ?_
          intro W0 hW0
          have hS0 : Blk W0 w3.heap.size (tallyOf l).cells := by rw [hW0]; exact HS.out.drew
          have hbW : Below w.heap.size w W0 := by rw [hW0]; exact HB.out.drew
          have hH0 : Pks W0 oa l.length c l := by rw [hW0]; exact H.out.below (below_drew _)
          have hK0 : Pks W0 ok k.length ck k := by rw [hW0]; exact HK.out.below (below_drew _)
          have hQ0 : Pks W0 oq q.length cq q := by rw [hW0]; exact HQ.out.below (below_drew _)
          clear hW0
          (refine pl_take (d := 35) (v := ?_) rfl rfl rfl ?_ ?_; rotate_left; (focus ((intro w' hb0 hw'; have hc := hS0.later hw'; have c0 := hc.at' 0 (by simp [Tal.cells]); have c1 := hc.at' 1 (by simp [Tal.cells]); have c2 := hc.at' 2 (by simp [Tal.cells]); have c3 := hc.at' 3 (by simp [Tal.cells]); have c4 := hc.at' 4 (by simp [Tal.cells]); have c5 := hc.at' 5 (by simp [Tal.cells]); simp only [Tal.cells, List.getElem_cons_succ, List.getElem_cons_zero] at c0 c1 c2 c3 c4 c5; go_simp) <;> with_reducible rfl)); simp only [Act.put, List.setIfInBounds_toArray, List.set_cons_zero, List.set_cons_succ])
          (refine pl_take (d := 36) (v := ?_) rfl rfl rfl ?_ ?_; rotate_left; (focus ((intro w' hb0 hw'; go_simp) <;> with_reducible rfl)); simp only [Act.put, List.setIfInBounds_toArray, List.set_cons_zero, List.set_cons_succ])
          refine pl_one rfl rfl (fun K hK => ?_)
          go_simp
          refine (of11 l W0 oa _ c hH0 (by have := HL.out; omega)).mono ?_
          rintro r W1 ⟨rfl, hbk⟩
          refine hK _ _ (hbk : Rel none W0 W1) ?_
          clear hK
          replace hS0 := hS0.later hbk; replace hH0 := hH0.below hbk; replace hK0 := hK0.below hbk; replace hQ0 := hQ0.below hbk; replace hbW := below_step hbW hbk
          clear hbk
          refine pl_take (d := 38) (v := .bool true) rfl rfl rfl ?_ ?_
          · intro w' hb0 hw'
            simp only [Tal.cells]
            go_simp
          simp only [Act.put, List.setIfInBounds_toArray, List.set_cons_zero, List.set_cons_succ]
          (refine pl_take (d := 39) (v := ?_) rfl rfl rfl ?_ ?_; rotate_left; (focus ((intro w' hb0 hw'; go_simp) <;> with_reducible rfl)); simp only [Act.put, List.setIfInBounds_toArray, List.set_cons_zero, List.set_cons_succ])
          (refine pl_take (d := 40) (v := ?_) rfl rfl rfl ?_ ?_; rotate_left; (focus ((intro w' hb0 hw'; go_simp) <;> with_reducible rfl)); simp only [Act.put, List.setIfInBounds_toArray, List.set_cons_zero, List.set_cons_succ])
          (refine pl_take (d := 42) (v := ?_) rfl rfl rfl ?_ ?_; rotate_left; (focus ((intro w' hb0 hw'; go_simp) <;> with_reducible rfl)); simp only [Act.put, List.setIfInBounds_toArray, List.set_cons_zero, List.set_cons_succ])
          (refine pl_take (d := 44) (v := ?_) rfl rfl rfl ?_ ?_; rotate_left; (focus ((intro w' hb0 hw'; go_simp) <;> with_reducible rfl)); simp only [Act.put, List.setIfInBounds_toArray, List.set_cons_zero, List.set_cons_succ])
          refine pl_one rfl rfl (fun K hK => ?_)
          go_simp
          refine (of11 q W1 oq _ cq hQ0 (by have := HQL.out; omega)).mono ?_
          rintro r W2 ⟨rfl, hbk⟩
          refine hK _ _ (hbk : Rel none W1 W2) ?_
          clear hK
          replace hS0 := hS0.later hbk; replace hH0 := hH0.below hbk; replace hK0 := hK0.below hbk; replace hQ0 := hQ0.below hbk; replace hbW := below_step hbW hbk
          clear hbk
          refine pl_one rfl rfl (fun K hK => ?_)
          go_simp
          refine (of11 l W2 oa _ c hH0 (by have := HL.out; omega)).mono ?_
          rintro r W3 ⟨rfl, hbk⟩
          refine hK _ _ (hbk : Rel none W2 W3) ?_
          clear hK
          replace hS0 := hS0.later hbk; replace hH0 := hH0.below hbk; replace hK0 := hK0.below hbk; replace hQ0 := hQ0.below hbk; replace hbW := below_step hbW hbk
          clear hbk
          refine pl_one rfl rfl (fun K hK => ?_)
          go_simp
          refine (of11 k W3 ok _ ck hK0 (by have := HKL.out; omega)).mono ?_
          rintro r W4 ⟨rfl, hbk⟩
          refine hK _ _ (hbk : Rel none W3 W4) ?_
          clear hK
          replace hS0 := hS0.later hbk; replace hH0 := hH0.below hbk; replace hK0 := hK0.below hbk; replace hQ0 := hQ0.below hbk; replace hbW := below_step hbW hbk
          clear hbk
          refine pl_one rfl rfl (fun K hK => ?_)
          go_simp
          refine (add19 (tallyOf l) (tallyOf k) W4).mono ?_
          rintro r W5 ⟨rfl, hbk⟩
          refine hK _ _ (hbk : Rel none W4 W5) ?_
          clear hK
          replace hS0 := hS0.later hbk; replace hH0 := hH0.below hbk; replace hK0 := hK0.below hbk; replace hQ0 := hQ0.below hbk; replace hbW := below_step hbW hbk
          clear hbk
          refine pl_take (d := 47) (v := .bool true) rfl rfl rfl ?_ ?_
          · intro w' hb0 hw'
            have he := HADD.out
            simp only [Tal.cells, he]
            go_simp
          simp only [Act.put, List.setIfInBounds_toArray, List.set_cons_zero, List.set_cons_succ]
          (refine pl_take (d := 48) (v := ?_) rfl rfl rfl ?_ ?_; rotate_left; (focus ((intro w' hb0 hw'; go_simp) <;> with_reducible rfl)); simp only [Act.put, List.setIfInBounds_toArray, List.set_cons_zero, List.set_cons_succ])
          (refine pl_take (d := 49) (v := ?_) rfl rfl rfl ?_ ?_; rotate_left; (focus ((intro w' hb0 hw'; go_simp) <;> with_reducible rfl)); simp only [Act.put, List.setIfInBounds_toArray, List.set_cons_zero, List.set_cons_succ])
          (refine pl_take (d := 50) (v := ?_) rfl rfl rfl ?_ ?_; rotate_left; (focus ((intro w' hb0 hw'; have hc := hS0.later hw'; have c0 := hc.at' 0 (by simp [Tal.cells]); have c1 := hc.at' 1 (by simp [Tal.cells]); have c2 := hc.at' 2 (by simp [Tal.cells]); have c3 := hc.at' 3 (by simp [Tal.cells]); have c4 := hc.at' 4 (by simp [Tal.cells]); have c5 := hc.at' 5 (by simp [Tal.cells]); simp only [Tal.cells, List.getElem_cons_succ, List.getElem_cons_zero] at c0 c1 c2 c3 c4 c5; go_simp) <;> with_reducible rfl)); simp only [Act.put, List.setIfInBounds_toArray, List.set_cons_zero, List.set_cons_succ])
          (refine pl_take (d := 52) (v := ?_) rfl rfl rfl ?_ ?_; rotate_left; (focus ((intro w' hb0 hw'; go_simp) <;> with_reducible rfl)); simp only [Act.put, List.setIfInBounds_toArray, List.set_cons_zero, List.set_cons_succ])
          (refine pl_take (d := 53) (v := ?_) rfl rfl rfl ?_ ?_; rotate_left; (focus ((intro w' hb0 hw'; go_simp) <;> with_reducible rfl)); simp only [Act.put, List.setIfInBounds_toArray, List.set_cons_zero, List.set_cons_succ])
          refine pl_one rfl rfl (fun K hK => ?_)
          go_simp
          refine (packets21 (tallyOf l) W5).mono ?_
          rintro r W6 ⟨rfl, hbk⟩
          refine hK _ _ (hbk : Rel none W5 W6) ?_
          clear hK
          replace hS0 := hS0.later hbk; replace hH0 := hH0.below hbk; replace hK0 := hK0.below hbk; replace hQ0 := hQ0.below hbk; replace hbW := below_step hbW hbk
          clear hbk
          refine pl_take (d := 54) (v := .bool true) rfl rfl rfl ?_ ?_
          · intro w' hb0 hw'
            have he := HPK.out
            rw [he]
            go_simp
          simp only [Act.put, List.setIfInBounds_toArray, List.set_cons_zero, List.set_cons_succ]
          (refine pl_take (d := 55) (v := ?_) rfl rfl rfl ?_ ?_; rotate_left; (focus ((intro w' hb0 hw'; go_simp) <;> with_reducible rfl)); simp only [Act.put, List.setIfInBounds_toArray, List.set_cons_zero, List.set_cons_succ])
          (refine pl_take (d := 56) (v := ?_) rfl rfl rfl ?_ ?_; rotate_left; (focus ((intro w' hb0 hw'; go_simp) <;> with_reducible rfl)); simp only [Act.put, List.setIfInBounds_toArray, List.set_cons_zero, List.set_cons_succ])
          (refine pl_take (d := 57) (v := ?_) rfl rfl rfl ?_ ?_; rotate_left; (focus ((intro w' hb0 hw'; go_simp) <;> with_reducible rfl)); simp only [Act.put, List.setIfInBounds_toArray, List.set_cons_zero, List.set_cons_succ])
          (refine pl_take (d := 58) (v := ?_) rfl rfl rfl ?_ ?_; rotate_left; (focus ((intro w' hb0 hw'; go_simp) <;> with_reducible rfl)); simp only [Act.put, List.setIfInBounds_toArray, List.set_cons_zero, List.set_cons_succ])
          (refine pl_take (d := 59) (v := ?_) rfl rfl rfl ?_ ?_; rotate_left; (focus ((intro w' hb0 hw'; go_simp) <;> with_reducible rfl)); simp only [Act.put, List.setIfInBounds_toArray, List.set_cons_zero, List.set_cons_succ])
          (refine pl_take (d := 60) (v := ?_) rfl rfl rfl ?_ ?_; rotate_left; (focus ((intro w' hb0 hw'; go_simp) <;> with_reducible rfl)); simp only [Act.put, List.setIfInBounds_toArray, List.set_cons_zero, List.set_cons_succ])
          (refine pl_take (d := 61) (v := ?_) rfl rfl rfl ?_ ?_; rotate_left; (focus ((intro w' hb0 hw'; have hc := hS0.later hw'; have c0 := hc.at' 0 (by simp [Tal.cells]); have c1 := hc.at' 1 (by simp [Tal.cells]); have c2 := hc.at' 2 (by simp [Tal.cells]); have c3 := hc.at' 3 (by simp [Tal.cells]); have c4 := hc.at' 4 (by simp [Tal.cells]); have c5 := hc.at' 5 (by simp [Tal.cells]); simp only [Tal.cells, List.getElem_cons_succ, List.getElem_cons_zero] at c0 c1 c2 c3 c4 c5; go_simp) <;> with_reducible rfl)); simp only [Act.put, List.setIfInBounds_toArray, List.set_cons_zero, List.set_cons_succ])
          (refine pl_take (d := 62) (v := ?_) rfl rfl rfl ?_ ?_; rotate_left; (focus ((intro w' hb0 hw'; have hc := hS0.later hw'; have c0 := hc.at' 0 (by simp [Tal.cells]); have c1 := hc.at' 1 (by simp [Tal.cells]); have c2 := hc.at' 2 (by simp [Tal.cells]); have c3 := hc.at' 3 (by simp [Tal.cells]); have c4 := hc.at' 4 (by simp [Tal.cells]); have c5 := hc.at' 5 (by simp [Tal.cells]); simp only [Tal.cells, List.getElem_cons_succ, List.getElem_cons_zero] at c0 c1 c2 c3 c4 c5; go_simp) <;> with_reducible rfl)); simp only [Act.put, List.setIfInBounds_toArray, List.set_cons_zero, List.set_cons_succ])
          refine pl_one rfl rfl (fun K hK => ?_)
          go_simp
          refine (share23 (tallyOf l) (tallyOf l) W6).mono ?_
          rintro r W7 ⟨rfl, hbk⟩
          refine hK _ _ (hbk : Rel none W6 W7) ?_
          clear hK
          replace hS0 := hS0.later hbk; replace hH0 := hH0.below hbk; replace hK0 := hK0.below hbk; replace hQ0 := hQ0.below hbk; replace hbW := below_step hbW hbk
          clear hbk
          refine pl_take (d := 64) (v := .bool false) rfl rfl rfl ?_ ?_
          · intro w' hb0 hw'
            have he := HSH.out
            rw [he]
            go_simp
          simp only [Act.put, List.setIfInBounds_toArray, List.set_cons_zero, List.set_cons_succ]
          (refine pl_take (d := 65) (v := ?_) rfl rfl rfl ?_ ?_; rotate_left; (focus ((intro w' hb0 hw'; go_simp) <;> with_reducible rfl)); simp only [Act.put, List.setIfInBounds_toArray, List.set_cons_zero, List.set_cons_succ])
          (refine pl_take (d := 66) (v := ?_) rfl rfl rfl ?_ ?_; rotate_left; (focus ((intro w' hb0 hw'; go_simp) <;> with_reducible rfl)); simp only [Act.put, List.setIfInBounds_toArray, List.set_cons_zero, List.set_cons_succ])
          (refine pl_take (d := 67) (v := ?_) rfl rfl rfl ?_ ?_; rotate_left; (focus ((intro w' hb0 hw'; go_simp) <;> with_reducible rfl)); simp only [Act.put, List.setIfInBounds_toArray, List.set_cons_zero, List.set_cons_succ])
          (refine pl_take (d := 68) (v := ?_) rfl rfl rfl ?_ ?_; rotate_left; (focus ((intro w' hb0 hw'; have hc := hS0.later hw'; have c0 := hc.at' 0 (by simp [Tal.cells]); have c1 := hc.at' 1 (by simp [Tal.cells]); have c2 := hc.at' 2 (by simp [Tal.cells]); have c3 := hc.at' 3 (by simp [Tal.cells]); have c4 := hc.at' 4 (by simp [Tal.cells]); have c5 := hc.at' 5 (by simp [Tal.cells]); simp only [Tal.cells, List.getElem_cons_succ, List.getElem_cons_zero] at c0 c1 c2 c3 c4 c5; have hz := HZ.out; rw [hz] at c5; go_simp) <;> with_reducible rfl)); simp only [Act.put, List.setIfInBounds_toArray, List.set_cons_zero, List.set_cons_succ])
          (refine pl_take (d := 69) (v := ?_) rfl rfl rfl ?_ ?_; rotate_left; (focus ((intro w' hb0 hw'; go_simp) <;> with_reducible rfl)); simp only [Act.put, List.setIfInBounds_toArray, List.set_cons_zero, List.set_cons_succ])
          (refine pl_take (d := 70) (v := ?_) rfl rfl rfl ?_ ?_; rotate_left; (focus ((intro w' hb0 hw'; go_simp) <;> with_reducible rfl)); simp only [Act.put, List.setIfInBounds_toArray, List.set_cons_zero, List.set_cons_succ])
          (refine pl_take (d := 71) (v := ?_) rfl rfl rfl ?_ ?_; rotate_left; (focus ((intro w' hb0 hw'; go_simp) <;> with_reducible rfl)); simp only [Act.put, List.setIfInBounds_toArray, List.set_cons_zero, List.set_cons_succ])
          (refine pl_take (d := 4) (v := ?_) rfl rfl rfl ?_ ?_; rotate_left; (focus ((intro w' hb0 hw'; go_simp) <;> with_reducible rfl)); simp only [Act.put, List.setIfInBounds_toArray, List.set_cons_zero, List.set_cons_succ])
          refine pl_end ?_
          clear hS0 hH0 hK0 hQ0
          go_wp2
          refine bodyPost_ret (v := .bool true) (by simp [results, Try.results5, go_sem]) rfl ⟨rfl, hbW⟩
        · have HSH := Lib.hid (share_same _ HSB.out hz)
          clear hz
          go_wp2_with fail
          refine wp_region_plan none [] [] (.take 0 (.take 1 (.one 2 (.take 3 (.take 4 (.take 5 (.take 7 (.take 9 (.one 6 (.one 8 (.one 10 (.one 11 (.take 12 (.take 13 (.take 14 (.take 15 (.take 17 (.take 18 (.one 16 (.take 19 (.take 20 (.take 21 (.take 22 (.take 23 (.take 24 (.take 25 (.take 26 (.take 27 (.one 28 (.take 29 (.take 30 (.take 31 (.take 32 (.take 33 (.take 34 (.take 35 (.take 36 (.take 37 .done)))))))))))))))))))))))))))))))))))))) (by kernel_rfl) (by kernel_rfl) (fun _ _ dd _ _ h => by cases dd <;> exact h) ?_
          intro W0 hW0
          have hS0 : Blk W0 w3.heap.size (tallyOf l).cells := by rw [hW0]; exact HS.out.drew
          have hbW : Below w.heap.size w W0 := by rw [hW0]; exact HB.out.drew
          have hH0 : Pks W0 oa l.length c l := by rw [hW0]; exact H.out.below (below_drew _)
          have hK0 : Pks W0 ok k.length ck k := by rw [hW0]; exact HK.out.below (below_drew _)
          have hQ0 : Pks W0 oq q.length cq q := by rw [hW0]; exact HQ.out.below (below_drew _)
          clear hW0
          (refine pl_take (d := 35) (v := ?_) rfl rfl rfl ?_ ?_; rotate_left; (focus ((intro w' hb0 hw'; have hc := hS0.later hw'; have c0 := hc.at' 0 (by simp [Tal.cells]); have c1 := hc.at' 1 (by simp [Tal.cells]); have c2 := hc.at' 2 (by simp [Tal.cells]); have c3 := hc.at' 3 (by simp [Tal.cells]); have c4 := hc.at' 4 (by simp [Tal.cells]); have c5 := hc.at' 5 (by simp [Tal.cells]); simp only [Tal.cells, List.getElem_cons_succ, List.getElem_cons_zero] at c0 c1 c2 c3 c4 c5; go_simp) <;> with_reducible rfl)); simp only [Act.put, List.setIfInBounds_toArray, List.set_cons_zero, List.set_cons_succ])
          (refine pl_take (d := 36) (v := ?_) rfl rfl rfl ?_ ?_; rotate_left; (focus ((intro w' hb0 hw'; go_simp) <;> with_reducible rfl)); simp only [Act.put, List.setIfInBounds_toArray, List.set_cons_zero, List.set_cons_succ])
          refine pl_one rfl rfl (fun K hK => ?_)
          go_simp
          refine (of11 l W0 oa _ c hH0 (by have := HL.out; omega)).mono ?_
          rintro r W1 ⟨rfl, hbk⟩
          refine hK _ _ (hbk : Rel none W0 W1) ?_
          clear hK
          replace hS0 := hS0.later hbk; replace hH0 := hH0.below hbk; replace hK0 := hK0.below hbk; replace hQ0 := hQ0.below hbk; replace hbW := below_step hbW hbk
          clear hbk
          refine pl_take (d := 38) (v := .bool true) rfl rfl rfl ?_ ?_
          · intro w' hb0 hw'
            simp only [Tal.cells]
            go_simp
          simp only [Act.put, List.setIfInBounds_toArray, List.set_cons_zero, List.set_cons_succ]
          (refine pl_take (d := 39) (v := ?_) rfl rfl rfl ?_ ?_; rotate_left; (focus ((intro w' hb0 hw'; go_simp) <;> with_reducible rfl)); simp only [Act.put, List.setIfInBounds_toArray, List.set_cons_zero, List.set_cons_succ])
          (refine pl_take (d := 40) (v := ?_) rfl rfl rfl ?_ ?_; rotate_left; (focus ((intro w' hb0 hw'; go_simp) <;> with_reducible rfl)); simp only [Act.put, List.setIfInBounds_toArray, List.set_cons_zero, List.set_cons_succ])
          (refine pl_take (d := 42) (v := ?_) rfl rfl rfl ?_ ?_; rotate_left; (focus ((intro w' hb0 hw'; go_simp) <;> with_reducible rfl)); simp only [Act.put, List.setIfInBounds_toArray, List.set_cons_zero, List.set_cons_succ])
          (refine pl_take (d := 44) (v := ?_) rfl rfl rfl ?_ ?_; rotate_left; (focus ((intro w' hb0 hw'; go_simp) <;> with_reducible rfl)); simp only [Act.put, List.setIfInBounds_toArray, List.set_cons_zero, List.set_cons_succ])
          refine pl_one rfl rfl (fun K hK => ?_)
          go_simp
          refine (of11 q W1 oq _ cq hQ0 (by have := HQL.out; omega)).mono ?_
          rintro r W2 ⟨rfl, hbk⟩
          refine hK _ _ (hbk : Rel none W1 W2) ?_
          clear hK
          replace hS0 := hS0.later hbk; replace hH0 := hH0.below hbk; replace hK0 := hK0.below hbk; replace hQ0 := hQ0.below hbk; replace hbW := below_step hbW hbk
          clear hbk
          refine pl_one rfl rfl (fun K hK => ?_)
          go_simp
          refine (of11 l W2 oa _ c hH0 (by have := HL.out; omega)).mono ?_
          rintro r W3 ⟨rfl, hbk⟩
          refine hK _ _ (hbk : Rel none W2 W3) ?_
          clear hK
          replace hS0 := hS0.later hbk; replace hH0 := hH0.below hbk; replace hK0 := hK0.below hbk; replace hQ0 := hQ0.below hbk; replace hbW := below_step hbW hbk
          clear hbk
          refine pl_one rfl rfl (fun K hK => ?_)
          go_simp
          refine (of11 k W3 ok _ ck hK0 (by have := HKL.out; omega)).mono ?_
          rintro r W4 ⟨rfl, hbk⟩
          refine hK _ _ (hbk : Rel none W3 W4) ?_
          clear hK
          replace hS0 := hS0.later hbk; replace hH0 := hH0.below hbk; replace hK0 := hK0.below hbk; replace hQ0 := hQ0.below hbk; replace hbW := below_step hbW hbk
          clear hbk
          refine pl_one rfl rfl (fun K hK => ?_)
          go_simp
          refine (add19 (tallyOf l) (tallyOf k) W4).mono ?_
          rintro r W5 ⟨rfl, hbk⟩
          refine hK _ _ (hbk : Rel none W4 W5) ?_
          clear hK
          replace hS0 := hS0.later hbk; replace hH0 := hH0.below hbk; replace hK0 := hK0.below hbk; replace hQ0 := hQ0.below hbk; replace hbW := below_step hbW hbk
          clear hbk
          refine pl_take (d := 47) (v := .bool true) rfl rfl rfl ?_ ?_
          · intro w' hb0 hw'
            have he := HADD.out
            simp only [Tal.cells, he]
            go_simp
          simp only [Act.put, List.setIfInBounds_toArray, List.set_cons_zero, List.set_cons_succ]
          (refine pl_take (d := 48) (v := ?_) rfl rfl rfl ?_ ?_; rotate_left; (focus ((intro w' hb0 hw'; go_simp) <;> with_reducible rfl)); simp only [Act.put, List.setIfInBounds_toArray, List.set_cons_zero, List.set_cons_succ])
          (refine pl_take (d := 49) (v := ?_) rfl rfl rfl ?_ ?_; rotate_left; (focus ((intro w' hb0 hw'; go_simp) <;> with_reducible rfl)); simp only [Act.put, List.setIfInBounds_toArray, List.set_cons_zero, List.set_cons_succ])
          (refine pl_take (d := 50) (v := ?_) rfl rfl rfl ?_ ?_; rotate_left; (focus ((intro w' hb0 hw'; have hc := hS0.later hw'; have c0 := hc.at' 0 (by simp [Tal.cells]); have c1 := hc.at' 1 (by simp [Tal.cells]); have c2 := hc.at' 2 (by simp [Tal.cells]); have c3 := hc.at' 3 (by simp [Tal.cells]); have c4 := hc.at' 4 (by simp [Tal.cells]); have c5 := hc.at' 5 (by simp [Tal.cells]); simp only [Tal.cells, List.getElem_cons_succ, List.getElem_cons_zero] at c0 c1 c2 c3 c4 c5; go_simp) <;> with_reducible rfl)); simp only [Act.put, List.setIfInBounds_toArray, List.set_cons_zero, List.set_cons_succ])
          (refine pl_take (d := 52) (v := ?_) rfl rfl rfl ?_ ?_; rotate_left; (focus ((intro w' hb0 hw'; go_simp) <;> with_reducible rfl)); simp only [Act.put, List.setIfInBounds_toArray, List.set_cons_zero, List.set_cons_succ])
          (refine pl_take (d := 53) (v := ?_) rfl rfl rfl ?_ ?_; rotate_left; (focus ((intro w' hb0 hw'; go_simp) <;> with_reducible rfl)); simp only [Act.put, List.setIfInBounds_toArray, List.set_cons_zero, List.set_cons_succ])
          refine pl_one rfl rfl (fun K hK => ?_)
          go_simp
          refine (packets21 (tallyOf l) W5).mono ?_
          rintro r W6 ⟨rfl, hbk⟩
          refine hK _ _ (hbk : Rel none W5 W6) ?_
          clear hK
          replace hS0 := hS0.later hbk; replace hH0 := hH0.below hbk; replace hK0 := hK0.below hbk; replace hQ0 := hQ0.below hbk; replace hbW := below_step hbW hbk
          clear hbk
          refine pl_take (d := 54) (v := .bool true) rfl rfl rfl ?_ ?_
          · intro w' hb0 hw'
            have he := HPK.out
            rw [he]
            go_simp
          simp only [Act.put, List.setIfInBounds_toArray, List.set_cons_zero, List.set_cons_succ]
          (refine pl_take (d := 55) (v := ?_) rfl rfl rfl ?_ ?_; rotate_left; (focus ((intro w' hb0 hw'; go_simp) <;> with_reducible rfl)); simp only [Act.put, List.setIfInBounds_toArray, List.set_cons_zero, List.set_cons_succ])
          (refine pl_take (d := 56) (v := ?_) rfl rfl rfl ?_ ?_; rotate_left; (focus ((intro w' hb0 hw'; go_simp) <;> with_reducible rfl)); simp only [Act.put, List.setIfInBounds_toArray, List.set_cons_zero, List.set_cons_succ])
          (refine pl_take (d := 57) (v := ?_) rfl rfl rfl ?_ ?_; rotate_left; (focus ((intro w' hb0 hw'; go_simp) <;> with_reducible rfl)); simp only [Act.put, List.setIfInBounds_toArray, List.set_cons_zero, List.set_cons_succ])
          (refine pl_take (d := 58) (v := ?_) rfl rfl rfl ?_ ?_; rotate_left; (focus ((intro w' hb0 hw'; go_simp) <;> with_reducible rfl)); simp only [Act.put, List.setIfInBounds_toArray, List.set_cons_zero, List.set_cons_succ])
          (refine pl_take (d := 59) (v := ?_) rfl rfl rfl ?_ ?_; rotate_left; (focus ((intro w' hb0 hw'; go_simp) <;> with_reducible rfl)); simp only [Act.put, List.setIfInBounds_toArray, List.set_cons_zero, List.set_cons_succ])
          (refine pl_take (d := 60) (v := ?_) rfl rfl rfl ?_ ?_; rotate_left; (focus ((intro w' hb0 hw'; go_simp) <;> with_reducible rfl)); simp only [Act.put, List.setIfInBounds_toArray, List.set_cons_zero, List.set_cons_succ])
          (refine pl_take (d := 61) (v := ?_) rfl rfl rfl ?_ ?_; rotate_left; (focus ((intro w' hb0 hw'; have hc := hS0.later hw'; have c0 := hc.at' 0 (by simp [Tal.cells]); have c1 := hc.at' 1 (by simp [Tal.cells]); have c2 := hc.at' 2 (by simp [Tal.cells]); have c3 := hc.at' 3 (by simp [Tal.cells]); have c4 := hc.at' 4 (by simp [Tal.cells]); have c5 := hc.at' 5 (by simp [Tal.cells]); simp only [Tal.cells, List.getElem_cons_succ, List.getElem_cons_zero] at c0 c1 c2 c3 c4 c5; go_simp) <;> with_reducible rfl)); simp only [Act.put, List.setIfInBounds_toArray, List.set_cons_zero, List.set_cons_succ])
          (refine pl_take (d := 62) (v := ?_) rfl rfl rfl ?_ ?_; rotate_left; (focus ((intro w' hb0 hw'; have hc := hS0.later hw'; have c0 := hc.at' 0 (by simp [Tal.cells]); have c1 := hc.at' 1 (by simp [Tal.cells]); have c2 := hc.at' 2 (by simp [Tal.cells]); have c3 := hc.at' 3 (by simp [Tal.cells]); have c4 := hc.at' 4 (by simp [Tal.cells]); have c5 := hc.at' 5 (by simp [Tal.cells]); simp only [Tal.cells, List.getElem_cons_succ, List.getElem_cons_zero] at c0 c1 c2 c3 c4 c5; go_simp) <;> with_reducible rfl)); simp only [Act.put, List.setIfInBounds_toArray, List.set_cons_zero, List.set_cons_succ])
          refine pl_one rfl rfl (fun K hK => ?_)
          go_simp
          refine (share23 (tallyOf l) (tallyOf l) W6).mono ?_
          rintro r W7 ⟨rfl, hbk⟩
          refine hK _ _ (hbk : Rel none W6 W7) ?_
          clear hK
          replace hS0 := hS0.later hbk; replace hH0 := hH0.below hbk; replace hK0 := hK0.below hbk; replace hQ0 := hQ0.below hbk; replace hbW := below_step hbW hbk
          clear hbk
          refine pl_take (d := 64) (v := .bool true) rfl rfl rfl ?_ ?_
          · intro w' hb0 hw'
            have he := HSH.out
            rw [he]
            go_simp
          simp only [Act.put, List.setIfInBounds_toArray, List.set_cons_zero, List.set_cons_succ]
          (refine pl_take (d := 65) (v := ?_) rfl rfl rfl ?_ ?_; rotate_left; (focus ((intro w' hb0 hw'; go_simp) <;> with_reducible rfl)); simp only [Act.put, List.setIfInBounds_toArray, List.set_cons_zero, List.set_cons_succ])
          (refine pl_take (d := 66) (v := ?_) rfl rfl rfl ?_ ?_; rotate_left; (focus ((intro w' hb0 hw'; go_simp) <;> with_reducible rfl)); simp only [Act.put, List.setIfInBounds_toArray, List.set_cons_zero, List.set_cons_succ])
          (refine pl_skip (d := 67) rfl rfl rfl ?_; simp only [Act.put, List.setIfInBounds_toArray, List.set_cons_zero, List.set_cons_succ])
          (refine pl_skip (d := 68) rfl rfl rfl ?_; simp only [Act.put, List.setIfInBounds_toArray, List.set_cons_zero, List.set_cons_succ])
          (refine pl_skip (d := 69) rfl rfl rfl ?_; simp only [Act.put, List.setIfInBounds_toArray, List.set_cons_zero, List.set_cons_succ])
          (refine pl_take (d := 70) (v := ?_) rfl rfl rfl ?_ ?_; rotate_left; (focus ((intro w' hb0 hw'; go_simp) <;> with_reducible rfl)); simp only [Act.put, List.setIfInBounds_toArray, List.set_cons_zero, List.set_cons_succ])
          (refine pl_take (d := 71) (v := ?_) rfl rfl rfl ?_ ?_; rotate_left; (focus ((intro w' hb0 hw'; go_simp) <;> with_reducible rfl)); simp only [Act.put, List.setIfInBounds_toArray, List.set_cons_zero, List.set_cons_succ])
          (refine pl_take (d := 4) (v := ?_) rfl rfl rfl ?_ ?_; rotate_left; (focus ((intro w' hb0 hw'; go_simp) <;> with_reducible rfl)); simp only [Act.put, List.setIfInBounds_toArray, List.set_cons_zero, List.set_cons_succ])
          refine pl_end ?_
          clear hS0 hH0 hK0 hQ0
          go_wp2
          refine bodyPost_ret (v := .bool true) (by simp [results, Try.results5, go_sem]) rfl ⟨rfl, hbW⟩
end Go.Proofs.Ythobmcpilfalgaa
