/-
  Walk: a packet twice.
-/
import Derived.Test.YthnfbbnpjfjaiaaWg
namespace Go.Proofs.Ythnfbbnpjfjaiaa
open Go.RowKit
set_option maxHeartbeats 1000000
set_option maxRecDepth 20000
set_option linter.unusedVariables false
set_option linter.unusedSimpArgs false

theorem double14 (l : List Pk) (i : Int) (w : World) (oa : Option Addr) (n c : Nat) (h : Pks w oa n c l) (hl : l.length ≤ 1000) :
    Calls Try.prog 14 #[.slice oa n c, .int .i64 i] w (ListOk w (doubleD (l.map Pk.dat) i).1 (doubleD (l.map Pk.dat) i).2) := by
  obtain rfl : n = l.length := h.rows.len
  obtain ⟨R, hR⟩ : ∃ R, doubleD (l.map Pk.dat) i = R := ⟨_, rfl⟩
  rw [hR]
  have HS : Hid (R = if i < 0 ∨ (l.length : Int) ≤ i then (l.map Pk.dat, 2) else if 255 < l.length then (l.map Pk.dat, 27) else (l.map Pk.dat ++ [(l.map Pk.dat).getD i.toNat default], 0)) := by
    show _ = _
    rw [← hR]; unfold doubleD; simp
  clear hR
  have H := Lib.hid h; have HL := Lib.hid hl; clear h hl
  go_enter Try.func14, Try.ntmps14
  go_wp2_with fail
  refine (copy11 l w oa _ c H.out (by have := HL.out; omega)).mono ?_
  rintro r w1 ⟨v, l', rfl, hO, hD, hb1⟩
  have hll : l'.length = l.length := by have := congrArg List.length hD; simpa using this
  have hsz := hb1.size
  have HSZ := Lib.hid hsz; clear hsz
  have HD := Lib.hid hD; have HO := Lib.hid hO; have HB := Lib.hid hb1; have HLL := Lib.hid hll
  clear hO hD hb1 hll
  by_cases hin : i < 0 ∨ (l.length : Int) ≤ i
  · have HR : Hid (R = (l.map Pk.dat, 2)) := by show _ = _; rw [HS.out, if_pos hin]
    have HT : Hid ((decide (0 ≤ i) && decide (i < (l.length : Int))) = false) := by
      show _ = _
      rw [Bool.and_eq_false_iff]
      rcases hin with h | h
      · exact .inl (decide_eq_false (by omega))
      · exact .inr (decide_eq_false (by omega))
    clear hin HS
    go_wp2_with fail
    refine (place20 w1 oa _ c i).mono ?_
    rintro r w' ⟨rfl, hw'⟩
    rw [hw', HT.out]; clear hw' w'
    obtain ⟨o1, k1, rfl, hpk⟩ := HO.out.pks
    have HPK := Lib.hid hpk; clear hpk
    go_wp2
    refine bodyPost_ret (v := .tuple #[.slice o1 l'.length k1, .int .i64 2]) (by simp [results, Try.results14, go_sem]) rfl ⟨o1, _, k1, l', by rw [HR.out], HPK.out, by rw [HR.out]; exact HD.out, HB.out⟩
  · have HT : Hid ((decide (0 ≤ i) && decide (i < (l.length : Int))) = true) := by
      show _ = _
      rw [Bool.and_eq_true]
      exact ⟨decide_eq_true (by omega), decide_eq_true (by omega)⟩
    obtain ⟨k, rfl⟩ : ∃ k : Nat, i = (k : Int) := ⟨i.toNat, by omega⟩
    have hlt : k < l.length := by omega
    by_cases hful : 256 ≤ l.length
    · have hful' : (256 : Int) ≤ (l.length : Int) := by omega
      have HR : Hid (R = (l.map Pk.dat, 27)) := by show _ = _; rw [HS.out, if_neg hin, if_pos (by omega)]
      clear hin HS hful hlt
      go_wp2_with fail
      refine (place20 w1 oa _ c (k : Int)).mono ?_
      rintro r w' ⟨rfl, hw'⟩
      rw [hw', HT.out]; clear hw' w'
      obtain ⟨o1, k1, rfl, hpk⟩ := HO.out.pks
      have HPK := Lib.hid hpk; clear hpk
      go_wp2
      refine bodyPost_ret (v := .tuple #[.slice o1 l'.length k1, .int .i64 27]) (by simp [results, Try.results14, go_sem]) rfl ⟨o1, _, k1, l', by rw [HR.out], HPK.out, by rw [HR.out]; exact HD.out, HB.out⟩
    · have hful' : ¬ (256 : Int) ≤ (l.length : Int) := by omega
      have hkl : (k : Int) < (l.length : Int) := by omega
      obtain ⟨b1, p1, rfl, hb1, e10, e11, e12⟩ := (H.out.rows.below HB.out).pk hlt
      have hok := (H.out.ok _ (List.getElem_mem hlt)).below HB.out
      have hR0 : R = (l.map Pk.dat ++ [l[k].dat], 0) := by
        rw [HS.out, if_neg hin, if_neg (by omega)]
        simp [List.getD, hlt]
      obtain ⟨q1, hq1'⟩ : ∃ q, l[k] = q := ⟨_, rfl⟩
      rw [hq1'] at e10 e11 e12 hok hR0
      clear hq1'
      obtain ⟨f, t, po, pn, pc, pb⟩ := q1
      simp only at e10 e11 e12
      have HR := Lib.hid hR0; have HP1 := Lib.hid hok; have HP := HP1
      clear hful hin HS hR0 hok hlt
      go_wp2_with fail
      refine (place20 w1 _ _ c (k : Int)).mono ?_
      rintro r w' ⟨rfl, hw'⟩
      rw [hw', HT.out]; clear hw' w'
      go_wp2_with fail
      refine (one19 ⟨f, t, po, pn, pc, pb⟩ w1 HP1.out).mono ?_
      rintro r W2 ⟨b, rfl, hbge, hB, hb2⟩
      simp only at hB
      have hbb := below_step HB.out hb2
      have hO2 := HO.out.later hb2
      have hnew : ∀ q ∈ l', q.oa ≠ some ⟨b, 0, none⟩ := by
        intro q hq e
        obtain ⟨g, h1, -, h3, -⟩ := HO.out.blk q hq
        rw [e] at h1
        have : b = g := by simpa using h1
        subst this
        have := h3.lt
        omega
      have hne : v.ownBlock ≠ some b := fun e => by
        have := (HO.out.own.row.lt b e).2
        omega
      have hwb := Nat.le_trans HSZ.out hbge
      have hql : pn = pb.length ∧ pn ≤ pn ∧ pn ≤ maxLen ∧ pn ≤ reachBytes := ⟨HP.out.reads.len, Nat.le_refl _, Nat.le_trans HP.out.le HP.out.cap, HP.out.small⟩
      have HBB := Lib.hid hbb; have HO2 := Lib.hid hO2; have HB2 := Lib.hid hB; have HNEW := Lib.hid hnew; have HQL := Lib.hid hql; have HNE := Lib.hid hne; have HWB := Lib.hid hwb
      have hsz2 := Nat.le_trans HSZ.out hb2.size
      have HSZ2 := Lib.hid hsz2
      clear hbb hO2 hB hnew hql hne hb2 hbge hwb hsz2
      go_wp2_with (refine stop_append rfl ?_)
      have hO3 := HO2.out.later ((Below.refl _ _).alloc (Nat.le_refl _) (.cells [Value.string f, .string t, .slice (some ⟨b, 0, none⟩) pn pn].toArray 25))
      have hB3 := HB2.out.alloc (.cells [Value.string f, .string t, .slice (some ⟨b, 0, none⟩) pn pn].toArray 25)
      have hN3 := Blk.new W2 [Value.string f, .string t, .slice (some ⟨b, 0, none⟩) pn pn] 25
      have hb3 := HBB.out.alloc HBB.out.size (.cells [Value.string f, .string t, .slice (some ⟨b, 0, none⟩) pn pn].toArray 25)
      have hs3 : w.heap.size ≤ (W2.alloc (.cells [Value.string f, .string t, .slice (some ⟨b, 0, none⟩) pn pn].toArray 25)).heap.size := Nat.le_trans HSZ2.out (by simp)
      have hlk := HLL.out; have hll := HL.out
      refine ⟨wpList_plain rfl fun K hK => wp_app_at el22 (by rfl) (by rfl) hO3.own (by rfl) (m := 1) rfl hN3.cells (by simp [Value.oneCell']) (by omega) (by simp [maxLen]; omega) (by omega) hs3 fun g cap W4 hO4 hg4 hgg => hK _ _ ?_⟩
      have hP4 := hO3.push (p := ⟨f, t, some ⟨b, 0, none⟩, pn, pn, pb⟩) HQL.out rfl HWB.out hB3 HNE.out HNEW.out hO4 hg4 hgg
      have hb4 := hO3.own.below hg4 hb3 (Nat.le_refl _) hs3
      obtain ⟨o5, k5, e5, hpk⟩ := hP4.pks
      obtain ⟨rfl, -, rfl⟩ : some (⟨g, 0, none⟩ : Addr) = o5 ∧ True ∧ cap = k5 := by simpa using e5
      have HPK := Lib.hid hpk; have HB4 := Lib.hid hb4
      clear hP4 hb4 hO3 hB3 hN3 hb3 hlk hll hO4 hg4 hgg HO2 HB2 HBB HNEW HNE HQL e5 hpk hs3
      go_wp2
      refine bodyPost_ret (v := .tuple #[.slice (some ⟨g, 0, none⟩) (l'.length + 1) cap, .int .i64 0]) (by simp [results, Try.results14, go_sem]) rfl ⟨some ⟨g, 0, none⟩, l'.length + 1, cap, l' ++ [⟨f, t, some ⟨b, 0, none⟩, pn, pn, pb⟩], by rw [HR.out], by simpa using HPK.out, by rw [HR.out, List.map_append, HD.out]; rfl, HB4.out⟩
end Go.Proofs.Ythnfbbnpjfjaiaa
