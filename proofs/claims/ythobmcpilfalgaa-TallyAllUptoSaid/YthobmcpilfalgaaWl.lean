/-
  The law's walk: what packets come to.
-/
import Derived.Test.YthobmcpilfalgaaWk
namespace Go.Proofs.Ythobmcpilfalgaa
open Go.RowKit Go.Proofs.Ythobmcpilfalgaa.Plan Go.Proofs.Ythobmcpilfalgaa.Eager
set_option maxHeartbeats 4000000
set_option maxRecDepth 20000
set_option linter.unusedVariables false
set_option linter.unusedSimpArgs false

theorem flat_succ (A : List PP) {k : Nat} (h : k < A.length) : flat (A.take (k + 1)) = flat (A.take k) ++ [A[k].1, A[k].2] := by
  unfold flat
  rw [List.take_succ_eq_append_getElem h, List.flatMap_append]; simp

theorem tallyCounts3 (l : List Pk) (name : ByteArray) (w : World) (oa : Option Addr) (n c : Nat) (h : Pks w oa n c l) :
    Calls Try.prog 3 #[.slice oa n c, .string name] w fun r w' => r = .returned (.bool true) ∧ Below w.heap.size w w' := by
  obtain rfl : n = l.length := h.rows.len
  have H := Lib.hid h; clear h
  go_enter Try.func3, Try.ntmps3
  go_wp2_with fail
  refine (great6 l w oa _ c H.out).mono ?_
  rintro r w1 ⟨⟨b, rfl, hbl⟩, hb⟩
  have HB := Lib.hid hb; have HBL := Lib.hid hbl
  replace H := Lib.hid (H.out.below hb)
  clear hb hbl
  cases b with
  | true =>
    go_wp2_with fail
    refine (works7 _).mono ?_
    rintro r w2 ⟨rfl, hb⟩
    replace HB := Lib.hid (below_step HB.out hb); clear hb
    go_wp2
    refine bodyPost_ret (v := .bool true) (by simp [results, Try.results3, go_sem]) rfl ⟨rfl, HB.out⟩
  | false =>
  have hl : l.length ≤ 900 := by have := HBL.out rfl; omega
  have HL := Lib.hid hl; clear hl HBL
  by_cases hbig : (1000 : Int) < (name.size : Int)
  · go_wp2_with fail
    refine (works7 _).mono ?_
    rintro r w2 ⟨rfl, hb⟩
    replace HB := Lib.hid (below_step HB.out hb); clear hb
    go_wp2
    refine bodyPost_ret (v := .bool true) (by simp [results, Try.results3, go_sem]) rfl ⟨rfl, HB.out⟩
  go_wp2_with fail
  clear hbig
  refine (busiest8 l w1 oa _ c H.out HL.out).mono ?_
  rintro r w2 ⟨hbo, hb⟩
  unfold BusOk at hbo
  subst hbo
  replace H := Lib.hid (H.out.below hb); replace HB := Lib.hid (below_step HB.out hb); clear hb
  have HBU : Hid (∀ e, BusOk l e → e = Ending.returned (.tuple #[.string (busTo l (namesOf l)).1, .int .i64 (max (busTo l (namesOf l)).2 0)])) := fun e h => h
  obtain ⟨bn, hbn⟩ : ∃ x, (busTo l (namesOf l)).1 = x := ⟨_, rfl⟩
  obtain ⟨bm, hbm⟩ : ∃ x, max (busTo l (namesOf l)).2 0 = x := ⟨_, rfl⟩
  rw [hbn, hbm] at HBU ⊢
  clear hbn hbm
  go_wp2_with fail
  refine (refBusiest9 l w2 oa _ c H.out HL.out).mono ?_
  rintro r w3 ⟨hbo, hb⟩
  obtain rfl := HBU.out r hbo
  replace H := Lib.hid (H.out.below hb); replace HB := Lib.hid (below_step HB.out hb); clear hb HBU hbo
  go_wp2_with fail
  refine (pairs10 l w3 oa _ c H.out HL.out).mono ?_
  rintro r w4 ⟨⟨o4, c4, rfl, hR⟩, hb⟩
  replace H := Lib.hid (H.out.below hb); replace HB := Lib.hid (below_step HB.out hb)
  have HR := Lib.hid hR
  clear hb hR
  have HAL : Hid ((firsts (prs l)).length ≤ 900) := by
    show _ ≤ _
    have h1 := firsts_len (prs l)
    have h2 : (prs l).length = l.length := by simp [prs]
    have := HL.out
    omega
  obtain ⟨A, hA⟩ : ∃ A, firsts (prs l) = A := ⟨_, rfl⟩
  have HA := Lib.hid hA
  rw [hA] at HR HAL ⊢
  clear hA
  go_wp2_with fail
  go_loopw [9, 11, 33] (fun v _ u wr => ∃ k : Nat, k ≤ A.length ∧ u = .int .i64 k ∧ Hid (Own wr w4.heap.size 9 1 v (flat (A.take k)).length ((flat (A.take k)).flatMap str1)) ∧ Hid (Below w4.heap.size w4 wr)) (fun _ _ u _ => A.length - (intOf u).toNat)
  case atStart => exact ⟨0, by omega, rfl, Lib.hid (Own.nil _ _ _ _), Lib.hid (Below.refl _ _)⟩
  case round =>
    obtain ⟨k, hk, rfl, hO, hbel⟩ := hrel
    by_cases hlt : k < A.length
    · have hi1 : (k : Int) < (A.length : Int) := by omega
      have rk : IntKind.i64.wrap ((k : Int) + 1) = ((k + 1 : Nat) : Int) := by
        have h1 := HAL.out
        rw [IntKind.wrap_i64]; omega
      have HT := Lib.hid (flat_succ A hlt)
      have HLEN : Hid ((flat (A.take k)).length ≤ 1800) := by
        show _ ≤ _
        rw [flat_len]
        have h1 := HAL.out
        simp; omega
      obtain ⟨b1, p1, rfl, hb1, e0, e1⟩ := (HR.out.rows.below hbel.out).pp hlt
      obtain ⟨q, hq⟩ : ∃ q, A[k] = q := ⟨_, rfl⟩
      rw [hq] at e0 e1 HT
      clear hq
      obtain ⟨x1, x2⟩ := q
      simp only at e0 e1 HT
      obtain ⟨L, hL⟩ : ∃ L, flat (A.take k) = L := ⟨_, rfl⟩
      rw [hL] at hO HT HLEN
      clear hL
      have hal : Below wr.heap.size wr ((wr.alloc (.cells #[.string x1, .string x2] 30)).alloc (.cells #[.string x1, .string x2] 9)) := by (with_reducible try refine Lib.hid ?_); (repeat (with_reducible first | assumption | exact Below.refl _ _ | apply Below.drew | apply Below.drewN' | apply Below.setCell | apply Below.alloc)) <;> (try simp [length_fillTo, length_turnTo]) <;> (try omega)
      have hN : Blk ((wr.alloc (.cells #[.string x1, .string x2] 30)).alloc (.cells #[.string x1, .string x2] 9)) (wr.heap.size + 1) [.string x1, .string x2] := Blk.new' (by simp)
      have HO3 := Lib.hid (hO.out.later hal); have HB3 := Lib.hid (below_step hbel.out hal); have HN3 := Lib.hid hN
      clear hal hN hO hbel
      go_wp2_with (refine stop_append rfl ?_)
      have hlen := HLEN.out
      refine ⟨wpList_app el27 rfl (by rfl) (by rfl) HO3.out (by rfl) (m := 2) rfl HN3.out.cells (by simp [Value.oneCell']) (by simp [maxLen]; omega) (by omega) HB3.out.size ?_⟩
      intro v4 W4 hO4 hg4
      have hb4 := HO3.out.below hg4 HB3.out (Nat.le_refl _) HB3.out.size
      have HO4 := Lib.hid hO4; have HB4 := Lib.hid hb4
      clear hO4 hg4 hb4 hlen HO3 HN3 HB3 e0 e1
      go_wp2_with fail
      go_roundw
      case measure => (simp [intOf]) <;> omega
      case rel => exact ⟨k + 1, by omega, rfl, Lib.hid (by rw [HT.out]; simpa [str1] using HO4.out), HB4⟩
    · obtain rfl : k = A.length := by omega
      rw [List.take_length] at hO
      obtain ⟨o5, c5, rfl, hR5⟩ := Own.rws hO.out rfl
      have HR5 := Lib.hid hR5
      replace H := Lib.hid (H.out.below hbel.out); replace HB := Lib.hid (below_step HB.out hbel.out)
      clear hR5 hO hbel HR
      go_wp2_with fail
      refine (of11 l wr oa _ c H.out HL.out).mono ?_
      rintro r w5 ⟨rfl, hb⟩
      replace HR5 := Lib.hid (HR5.out.below hb)
      replace H := Lib.hid (H.out.below hb); replace HB := Lib.hid (below_step HB.out hb); clear hb
      obtain ⟨t, ht⟩ : ∃ t, tallyOf l = t := ⟨_, rfl⟩
      have HTL := Lib.hid ht
      rw [ht]
      clear ht
      go_wp2_with fail
      refine (refOf12 l w5 oa _ c H.out HL.out).mono ?_
      rintro r w6 ⟨rfl, hb⟩
      replace HR5 := Lib.hid (HR5.out.below hb)
      replace H := Lib.hid (H.out.below hb); replace HB := Lib.hid (below_step HB.out hb); clear hb
      rw [HTL.out]
      clear HTL
      obtain ⟨th, tw, tr, ts, tO, tb⟩ := t
      simp only [Tal.cells]
      go_wp2_with fail
      refine (from13 l name w6 oa _ c H.out HL.out).mono ?_
      rintro r w7 ⟨rfl, hb⟩
      replace HR5 := Lib.hid (HR5.out.below hb)
      replace H := Lib.hid (H.out.below hb); replace HB := Lib.hid (below_step HB.out hb); clear hb
      have HTF : Hid (tallyOf (fromL l name) = tallyOf (l.filter fun p => decide (p.frm = name))) := rfl
      obtain ⟨t, ht⟩ : ∃ t, tallyOf (l.filter fun p => decide (p.frm = name)) = t := ⟨_, rfl⟩
      rw [ht] at HTF ⊢
      clear ht
      go_wp2_with fail
      refine (refFrom14 l name w7 oa _ c H.out HL.out).mono ?_
      rintro r w8 ⟨rfl, hb⟩
      replace HR5 := Lib.hid (HR5.out.below hb)
      replace H := Lib.hid (H.out.below hb); replace HB := Lib.hid (below_step HB.out hb); clear hb
      rw [HTF.out]
      clear HTF
      obtain ⟨uh, uw, ur, us, uO, ub⟩ := t
      simp only [Tal.cells]
      go_wp2_with fail
      refine (names16 l w8 oa _ c H.out (by have := HL.out; omega)).mono ?_
      rintro r w9 ⟨⟨o9, c9, rfl, h9⟩, hb⟩
      have H9 := Lib.hid h9
      replace HR5 := Lib.hid (HR5.out.below hb)
      replace H := Lib.hid (H.out.below hb); replace HB := Lib.hid (below_step HB.out hb); clear hb h9
      go_wp2_with fail
      refine (refNames17 l w9 oa _ c H.out HL.out).mono ?_
      rintro r w10 ⟨⟨o10, c10, rfl, h10⟩, hb⟩
      have H10 := Lib.hid h10
      replace HR5 := Lib.hid (HR5.out.below hb); replace H9 := Lib.hid (H9.out.below hb)
      replace H := Lib.hid (H.out.below hb); replace HB := Lib.hid (below_step HB.out hb); clear hb h10
      go_wp2_with fail
      refine (same15 (namesOf l) (namesOf l) w10 o9 o10 _ _ c9 c10 H9.out H10.out).mono ?_
      rintro r w11 ⟨rfl, hb⟩
      rw [decide_eq_true rfl]
      replace HR5 := Lib.hid (HR5.out.below hb)
      replace H := Lib.hid (H.out.below hb); replace HB := Lib.hid (below_step HB.out hb); clear hb H9 H10
      go_wp2_with fail
      refine (refPairs18 l w11 oa _ c H.out HL.out).mono ?_
      rintro r w12 ⟨⟨o12, c12, rfl, h12⟩, hb⟩
      rw [HA.out] at h12 ⊢
      have H12 := Lib.hid h12
      replace HR5 := Lib.hid (HR5.out.below hb)
      replace HB := Lib.hid (below_step HB.out hb); clear hb h12
      go_wp2_with fail
      refine (same15 (flat A) (flat A) w12 o5 o12 _ _ c5 c12 HR5.out H12.out).mono ?_
      rintro r w13 ⟨rfl, hb⟩
      rw [decide_eq_true rfl]
      replace HB := Lib.hid (below_step HB.out hb); clear hb H12 HR5 H
      go_wp2_with fail
      refine (works7 w13).mono ?_
      rintro r w14 ⟨rfl, hb⟩
      replace HB := Lib.hid (below_step HB.out hb); clear hb
      go_wp2
      refine bodyPost_ret (v := .bool true) (by simp [results, Try.results3, go_sem]) rfl ⟨rfl, HB.out⟩
end Go.Proofs.Ythobmcpilfalgaa
