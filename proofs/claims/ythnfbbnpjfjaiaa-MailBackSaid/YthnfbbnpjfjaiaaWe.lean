/-
  Walk: one more packet.
-/
import Derived.Test.YthnfbbnpjfjaiaaWd
namespace Go.Proofs.Ythnfbbnpjfjaiaa
open Go.RowKit
set_option maxHeartbeats 1000000
set_option maxRecDepth 20000
set_option linter.unusedVariables false
set_option linter.unusedSimpArgs false

abbrev Dat := ByteArray × ByteArray × List UInt8
/-- a list and an error -/
def ListOk (w : World) (D : List Dat) (e : Int) (r : Ending) (w' : World) : Prop :=
  ∃ oa n c l', r = .returned (.tuple #[.slice oa n c, .int .i64 e]) ∧ Pks w' oa n c l' ∧ l'.map Pk.dat = D ∧ Below w.heap.size w w'
def sendD (D : List Dat) (p : Dat) : List Dat × Int := if 2048 < p.2.2.length then (D, 3) else if 256 ≤ D.length then (D, 27) else (D ++ [p], 0)

theorem send7 (l : List Pk) (p : Pk) (w : World) (oa : Option Addr) (n c : Nat) (h : Pks w oa n c l) (hl : l.length ≤ 1000) (hp : p.Ok w) :
    Calls Try.prog 7 #[.slice oa n c, .agg #[.string p.frm, .string p.to, .slice p.oa p.n p.c]] w (ListOk w (sendD (l.map Pk.dat) p.dat).1 (sendD (l.map Pk.dat) p.dat).2) := by
  obtain rfl : n = l.length := h.rows.len
  obtain ⟨f, t, po, pn, pc, pb⟩ := p
  have hpn : pn = pb.length := hp.reads.len
  have HPN := Lib.hid hpn; clear hpn
  obtain ⟨R, hR⟩ : ∃ R, sendD (l.map Pk.dat) (Pk.dat ⟨f, t, po, pn, pc, pb⟩) = R := ⟨_, rfl⟩
  rw [hR]
  have HS : Hid (R = if 2048 < pn then (l.map Pk.dat, 3) else if 256 ≤ l.length then (l.map Pk.dat, 27) else (l.map Pk.dat ++ [(f, t, pb)], 0)) := by
    show _ = _
    rw [← hR]; unfold sendD Pk.dat; rw [HPN.out]; simp
  clear hR
  have H := Lib.hid h; have HL := Lib.hid hl; have HP := Lib.hid hp; clear h hl hp
  simp only
  have hal : Below w.heap.size w (w.alloc (.cells #[Value.string f, .string t, .slice po pn pc] 25)) := (Below.refl _ _).alloc (Nat.le_refl _) _
  have hX := Blk.new w [Value.string f, .string t, .slice po pn pc] 25
  have HAL := Lib.hid hal; have HX := Lib.hid hX; clear hal hX
  go_enter Try.func7, Try.ntmps7
  go_wp2_with fail
  refine (copy11 l _ oa _ c (H.out.below HAL.out) (by have := HL.out; omega)).mono ?_
  rintro r w1 ⟨v, l', rfl, hO, hD, hb1⟩
  have hX1 := HX.out.later hb1
  have hb01 := below_step HAL.out hb1
  have c0 : w1.cell? ⟨w.heap.size, 0, none⟩ = some (.string f) := hX1.at' 0 (by simp)
  have c1 : w1.cell? ⟨w.heap.size, 1, none⟩ = some (.string t) := hX1.at' 1 (by simp)
  have c2 : w1.cell? ⟨w.heap.size, 2, none⟩ = some (.slice po pn pc) := hX1.at' 2 (by simp)
  have hP1 := HP.out.below hb01
  have hll : l'.length = l.length := by have := congrArg List.length hD; simpa using this
  have hsz := hb1.size
  have HSZ := Lib.hid hsz; clear hsz
  have HD := Lib.hid hD; have HO := Lib.hid hO; have HB := Lib.hid hb01; have HP1 := Lib.hid hP1; have HLL := Lib.hid hll
  clear hO hD hb1 hb01 hX1 hP1 hll
  by_cases hbig : 2048 < pn
  · have hbig' : (2048 : Int) < (pn : Int) := by omega
    have HR : Hid (R = (l.map Pk.dat, 3)) := by show _ = _; rw [HS.out, if_pos hbig]
    clear hbig HS
    obtain ⟨o1, k1, rfl, hpk⟩ := HO.out.pks
    have HPK := Lib.hid hpk; clear hpk
    go_wp2
    refine bodyPost_ret (v := .tuple #[.slice o1 l'.length k1, .int .i64 3]) (by simp [results, Try.results7, go_sem]) rfl ⟨o1, _, k1, l', by rw [HR.out], HPK.out, by rw [HR.out]; exact HD.out, HB.out⟩
  · have hbig' : ¬ (2048 : Int) < (pn : Int) := by omega
    by_cases hful : 256 ≤ l.length
    · have hful' : (256 : Int) ≤ (l.length : Int) := by omega
      have HR : Hid (R = (l.map Pk.dat, 27)) := by show _ = _; rw [HS.out, if_neg hbig, if_pos hful]
      clear hful hbig HS
      obtain ⟨o1, k1, rfl, hpk⟩ := HO.out.pks
      have HPK := Lib.hid hpk; clear hpk
      go_wp2
      refine bodyPost_ret (v := .tuple #[.slice o1 l'.length k1, .int .i64 27]) (by simp [results, Try.results7, go_sem]) rfl ⟨o1, _, k1, l', by rw [HR.out], HPK.out, by rw [HR.out]; exact HD.out, HB.out⟩
    · have hful' : ¬ (256 : Int) ≤ (l.length : Int) := by omega
      have HR : Hid (R = (l.map Pk.dat ++ [(f, t, pb)], 0)) := by show _ = _; rw [HS.out, if_neg hbig, if_neg hful]
      clear hful hbig HS
      go_wp2_with fail
      refine (one19 ⟨f, t, po, pn, pc, pb⟩ w1 HP1.out).mono ?_
      rintro r W2 ⟨b, rfl, hbge, hB, hb2⟩
      simp only at hB
      have hbb := below_step HB.out hb2
      have hO2 := HO.out.later hb2
      have hnew : ∀ q ∈ l', q.oa ≠ some ⟨b, 0, none⟩ := by
        intro q hq e
        obtain ⟨g, h1, -, h3, -⟩ := HO.out.blk q hq
        rw [e] at h1
        have : b = g := by simpa using h1
        subst this
        have := h3.lt
        omega
      have hne : v.ownBlock ≠ some b := fun e => by
        have := (HO.out.own.row.lt b e).2
        omega
      have hwb := Nat.le_trans HSZ.out hbge
      have hql : pn = pb.length ∧ pn ≤ pn ∧ pn ≤ maxLen ∧ pn ≤ reachBytes := ⟨HP.out.reads.len, Nat.le_refl _, Nat.le_trans HP.out.le HP.out.cap, HP.out.small⟩
      have HBB := Lib.hid hbb; have HO2 := Lib.hid hO2; have HB2 := Lib.hid hB; have HNEW := Lib.hid hnew; have HQL := Lib.hid hql; have HNE := Lib.hid hne; have HWB := Lib.hid hwb
      have hsz2 := Nat.le_trans HSZ.out hb2.size
      have HSZ2 := Lib.hid hsz2
      clear hbb hO2 hB hnew hql hne hb2 hbge c0 c1 c2 hwb hsz2
      go_wp2_with (refine stop_append rfl ?_)
      have hO3 := HO2.out.later ((Below.refl _ _).alloc (Nat.le_refl _) (.cells [Value.string f, .string t, .slice (some ⟨b, 0, none⟩) pn pn].toArray 25))
      have hB3 := HB2.out.alloc (.cells [Value.string f, .string t, .slice (some ⟨b, 0, none⟩) pn pn].toArray 25)
      have hN3 := Blk.new W2 [Value.string f, .string t, .slice (some ⟨b, 0, none⟩) pn pn] 25
      have hb3 := HBB.out.alloc HBB.out.size (.cells [Value.string f, .string t, .slice (some ⟨b, 0, none⟩) pn pn].toArray 25)
      have hs3 : (w.alloc (.cells #[Value.string f, .string t, .slice po pn pc] 25)).heap.size ≤ (W2.alloc (.cells [Value.string f, .string t, .slice (some ⟨b, 0, none⟩) pn pn].toArray 25)).heap.size := Nat.le_trans HSZ2.out (by simp)
      have hlk := HLL.out; have hll := HL.out
      refine ⟨wpList_plain rfl fun K hK => wp_app_at el22 (by rfl) (by rfl) hO3.own (by rfl) (m := 1) rfl hN3.cells (by simp [Value.oneCell']) (by omega) (by simp [maxLen]; omega) (by omega) hs3 fun g cap W4 hO4 hg4 hgg => hK _ _ ?_⟩
      have hP4 := hO3.push (p := ⟨f, t, some ⟨b, 0, none⟩, pn, pn, pb⟩) HQL.out rfl HWB.out hB3 HNE.out HNEW.out hO4 hg4 hgg
      have hb4 := hO3.own.below hg4 hb3 (by simp) hs3
      obtain ⟨o5, k5, e5, hpk⟩ := hP4.pks
      obtain ⟨rfl, -, rfl⟩ : some (⟨g, 0, none⟩ : Addr) = o5 ∧ True ∧ cap = k5 := by simpa using e5
      have HPK := Lib.hid hpk; have HB4 := Lib.hid hb4
      clear hP4 hb4 hO3 hB3 hN3 hb3 hlk hll hO4 hg4 hgg HO2 HB2 HBB HNEW HNE HQL e5 hpk hs3
      go_wp2
      refine bodyPost_ret (v := .tuple #[.slice (some ⟨g, 0, none⟩) (l'.length + 1) cap, .int .i64 0]) (by simp [results, Try.results7, go_sem]) rfl ⟨some ⟨g, 0, none⟩, l'.length + 1, cap, l' ++ [⟨f, t, some ⟨b, 0, none⟩, pn, pn, pb⟩], by rw [HR.out], by simpa using HPK.out, by rw [HR.out, List.map_append, HD.out]; rfl, HB4.out⟩
end Go.Proofs.Ythnfbbnpjfjaiaa
