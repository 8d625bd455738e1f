/-
  Walk: a packet that is taken.
-/
import Derived.Test.YthnfbbnpjfjaiaaWi
import Derived.Test.YthnfbbnpjfjaiaaWj
namespace Go.Proofs.Ythnfbbnpjfjaiaa
open Go.RowKit
set_option maxHeartbeats 1000000
set_option maxRecDepth 20000
set_option linter.unusedVariables false
set_option linter.unusedSimpArgs false

theorem OwnPks.del {w w' : World} {base : Nat} {g cap : Nat} {l : List Pk} (h : OwnPks w base (.slice (some ⟨g, 0, none⟩) l.length cap) l) {k j : Nat} (hk : k < l.length) (hj : j = k + 1)
    (hB : ∃ zs, Blk w' g ((l.flatMap Pk.cells).take (k * 3) ++ ((l.flatMap Pk.cells).drop (j * 3) ++ zs))) (hg : ∀ x cs, base ≤ x → x ≠ g → Blk w x cs → Blk w' x cs) : Pks w' (some ⟨g, 0, none⟩) (l.length - 1) cap (l.take k ++ l.drop (k + 1)) := by
  subst hj
  obtain ⟨zs, hB⟩ := hB
  obtain ⟨oa, c, e, hp⟩ := h.pks
  obtain ⟨rfl, -, rfl⟩ : some (⟨g, 0, none⟩ : Addr) = oa ∧ True ∧ cap = c := by simpa using e
  have h1 : (l.flatMap Pk.cells).take (k * 3) = (l.take k).flatMap Pk.cells := by
    conv => lhs; rw [split_flat l k]
    exact List.take_left' (by rw [flat3, List.length_take, Nat.min_eq_left (Nat.le_of_lt hk)])
  have h2 : (l.flatMap Pk.cells).drop ((k + 1) * 3) = (l.drop (k + 1)).flatMap Pk.cells := by
    conv => lhs; rw [split_flat l (k + 1)]
    exact List.drop_left' (by rw [flat3, List.length_take, Nat.min_eq_left hk])
  rw [h1, h2, ← List.append_assoc, ← List.flatMap_append] at hB
  refine ⟨⟨by simp; omega, hB.sub.cells⟩, by have := hp.le; omega, hp.cap, fun q hq => ?_⟩
  have hql : q ∈ l := by
    rcases List.mem_append.1 hq with hq | hq
    · exact List.mem_of_mem_take hq
    · exact List.mem_of_mem_drop hq
  obtain ⟨x, x1, x2, x3, x4⟩ := h.blk q hql
  obtain ⟨a, b, c, d⟩ := h.len q hql
  exact ⟨⟨a, by rw [x1]; exact (hg x _ x2 (fun e => x4 (by rw [e]; rfl)) x3).cells⟩, b, c, d⟩

theorem take8 (l : List Pk) (i : Int) (w : World) (oa : Option Addr) (n c : Nat) (h : Pks w oa n c l) (hl : l.length ≤ 1000) :
    Calls Try.prog 8 #[.slice oa n c, .int .i64 i] w (TakeOk w (takeD (l.map Pk.dat) i)) := by
  obtain rfl : n = l.length := h.rows.len
  obtain ⟨R, hR⟩ : ∃ R, takeD (l.map Pk.dat) i = R := ⟨_, rfl⟩
  rw [hR]
  have HS : Hid (R = if i < 0 ∨ (l.length : Int) ≤ i then (noDat, l.map Pk.dat, 2) else ((l.map Pk.dat).getD i.toNat noDat, (l.map Pk.dat).take i.toNat ++ (l.map Pk.dat).drop (i.toNat + 1), 0)) := by
    show _ = _
    rw [← hR]; unfold takeD; simp
  clear hR
  have hal : Below w.heap.size w (w.alloc (.cells #[Value.string ⟨#[]⟩, .string ⟨#[]⟩, .slice none 0 0] 25)) := (Below.refl _ _).alloc (Nat.le_refl _) _
  have hX := Blk.new w [Value.string ⟨#[]⟩, .string ⟨#[]⟩, .slice none 0 0] 25
  have HAL := Lib.hid hal; have HX := Lib.hid hX; clear hal hX
  have H := Lib.hid h; have HL := Lib.hid hl; clear h hl
  obtain ⟨dd, hu25, hdr25⟩ := row25.row
  have HU := Lib.hid hu25; have HDR := Lib.hid hdr25; clear hu25 hdr25
  have hsz0 : (w.alloc (.cells #[Value.string ⟨#[]⟩, .string ⟨#[]⟩, .slice none 0 0] 25)).heap.size = w.heap.size + 1 := by simp
  have HSZ0 := Lib.hid hsz0; clear hsz0
  go_enter Try.func8, Try.ntmps8
  go_wp2_with fail
  refine (copy11 l _ oa _ c (H.out.below HAL.out) (by have := HL.out; omega)).mono ?_
  rintro r w1 ⟨v, l', rfl, hO, hD, hb1⟩
  have hll : l'.length = l.length := by have := congrArg List.length hD; simpa using this
  have hb01 := below_step HAL.out hb1
  have hX1 := HX.out.later hb1
  have hO := (HSZ0.out ▸ hO : OwnPks w1 (w.heap.size + 1) v l')
  have hsz : w.heap.size + 1 ≤ w1.heap.size := HSZ0.out ▸ hb1.size
  have HSZ := Lib.hid hsz; clear hsz
  have HD := Lib.hid hD; have HO := Lib.hid hO; have HB := Lib.hid hb01; have HLL := Lib.hid hll; have HX1 := Lib.hid hX1
  clear hO hD hb1 hll hb01 hX1 HX
  by_cases hin : i < 0 ∨ (l.length : Int) ≤ i
  · have HR : Hid (R = (noDat, l.map Pk.dat, 2)) := by show _ = _; rw [HS.out, if_pos hin]
    have HT : Hid ((decide (0 ≤ i) && decide (i < (l.length : Int))) = false) := by
      show _ = _
      rw [Bool.and_eq_false_iff]
      rcases hin with h | h
      · exact .inl (decide_eq_false (by omega))
      · exact .inr (decide_eq_false (by omega))
    clear hin HS
    go_wp2_with fail
    refine (place20 w1 oa _ c i).mono ?_
    rintro r w' ⟨rfl, hw'⟩
    rw [hw', HT.out]; clear hw' w'
    obtain ⟨o1, k1, rfl, hpk⟩ := HO.out.pks
    have HPK := Lib.hid hpk; clear hpk
    go_wp2_with (refine stop_store (ty := 25) rfl ?_)
    refine ⟨wpList_store_blk rfl rfl HX1.out (by rfl) (vs := [Value.string ⟨#[]⟩, .string ⟨#[]⟩, .slice none 0 0]) (by rfl) row25 rfl (by simp [Value.oneCell']) ?_⟩
    intro W5 hY5 hg5
    have hb5 := Below.grownB HB.out hg5 (Nat.le_refl _) HB.out.size
    have hld := run_loadVar_mid W5 w.heap.size 0 25 _ dd hY5.range HU.out HDR.out row25.size
    have HLD := Lib.hid hld
    have hp5 : Pks W5 o1 l'.length k1 l' := by
      have e : OwnPks W5 (w.heap.size + 1) (.slice o1 l'.length k1) l' := ⟨HO.out.own.grown hg5 (fun b e e2 => by
          have := (HO.out.own.row.lt b e).1
          have e3 : w.heap.size = b := (by simpa using e2)
          omega), HO.out.len, fun p hp => by
            obtain ⟨x, x1, x2, x3, x4⟩ := HO.out.blk p hp
            exact ⟨x, x1, x2, x3.grown hg5 (fun e2 => by
              have e3 : w.heap.size = x := (by simpa using e2)
              omega), x4⟩, HO.out.apart⟩
      obtain ⟨oa, c, e1, hp⟩ := e.pks
      obtain ⟨rfl, -, rfl⟩ : o1 = oa ∧ True ∧ k1 = c := by simpa using e1
      exact hp
    have HF : Hid (TakeOk w R (.returned (.tuple #[.agg #[Value.string ⟨#[]⟩, .string ⟨#[]⟩, .slice none 0 0], .slice o1 l'.length k1, .int .i64 2])) W5) :=
      ⟨noPk, o1, _, k1, l', by rw [HR.out]; rfl, noPk_ok _, by rw [HR.out]; rfl, hp5, by rw [HR.out]; exact HD.out, hb5⟩
    clear hb5 hY5 hg5 hld hp5
    go_wp2
    have hld := HLD.out
    refine bodyPost_ret (v := .tuple #[.agg #[Value.string ⟨#[]⟩, .string ⟨#[]⟩, .slice none 0 0], .slice o1 l'.length k1, .int .i64 2]) ?_ rfl HF.out
    simp [results, Try.results8, asAddr, hld]
  · have HT : Hid ((decide (0 ≤ i) && decide (i < (l.length : Int))) = true) := by
      show _ = _
      rw [Bool.and_eq_true]
      exact ⟨decide_eq_true (by omega), decide_eq_true (by omega)⟩
    obtain ⟨k, rfl⟩ : ∃ k : Nat, i = (k : Int) := ⟨i.toNat, by omega⟩
    have hlt : k < l.length := by omega
    have hkl : (k : Int) < (l.length : Int) := by omega
    obtain ⟨j, hj⟩ : ∃ j, j = k + 1 := ⟨_, rfl⟩
    have rk : IntKind.i64.wrap ((k : Int) + 1) = (j : Int) := by
      have h1 := HL.out
      rw [IntKind.wrap_i64]; omega
    obtain ⟨b1, p1, rfl, hb1, e10, e11, e12⟩ := (H.out.rows.below HB.out).pk hlt
    have hok := (H.out.ok _ (List.getElem_mem hlt)).below HB.out
    have hR0 : R = (l[k].dat, (l.map Pk.dat).take k ++ (l.map Pk.dat).drop (k + 1), 0) := by
      rw [HS.out, if_neg hin]
      simp [List.getD, hlt]
    obtain ⟨q1, hq1'⟩ : ∃ q, l[k] = q := ⟨_, rfl⟩
    rw [hq1'] at e10 e11 e12 hok hR0
    clear hq1'
    obtain ⟨f, t, po, pn, pc, pb⟩ := q1
    simp only at e10 e11 e12
    have HR := Lib.hid hR0; have HP1 := Lib.hid hok; have HLT := Lib.hid hlt; have HJ := Lib.hid hj
    clear hin HS hR0 hok hlt hj
    go_wp2_with fail
    refine (place20 w1 _ _ c (k : Int)).mono ?_
    rintro r w' ⟨rfl, hw'⟩
    rw [hw', HT.out]; clear hw' w'
    go_wp2_with fail
    refine (one19 ⟨f, t, po, pn, pc, pb⟩ w1 HP1.out).mono ?_
    rintro r W2 ⟨b, rfl, hbge, hB, hb2⟩
    simp only at hB
    have hbb := below_step HB.out hb2
    have hO2 := HO.out.later hb2
    have hX2 := HX1.out.later hb2
    have hwb := Nat.le_trans HSZ.out hbge
    have hql : pn = pb.length ∧ pn ≤ pn ∧ pn ≤ maxLen ∧ pn ≤ reachBytes := ⟨HP1.out.reads.len, Nat.le_refl _, Nat.le_trans HP1.out.le HP1.out.cap, HP1.out.small⟩
    have hlt' : k < l'.length := by rw [HLL.out]; exact HLT.out
    obtain ⟨g, cap, rfl, hnc, hcm, hgb, hBg⟩ := hO2.own.blk (by omega)
    have hne : ¬ g = b := fun e => by
      have := (HO.out.own.row.lt g rfl).2
      omega
    have HBB := Lib.hid hbb; have HO2 := Lib.hid hO2; have HB2 := Lib.hid hB; have HQL := Lib.hid hql; have HNE := Lib.hid hne; have HWB := Lib.hid hwb
    have hsz2 := Nat.le_trans HSZ.out hb2.size
    have HSZ2 := Lib.hid hsz2; have HX2 := Lib.hid hX2; have HBG := Lib.hid hBg; have HNC := Lib.hid hnc; have HCM := Lib.hid hcm; have HLT' := Lib.hid hlt'; have HGB := Lib.hid hgb
    clear hbb hO2 hB hql hne hb2 hbge hwb hsz2 hX2 hBg hnc hcm hlt' e10 e11 e12 hgb
    go_wp2_with fail
    refine (delete21 W2 g l'.length cap k j (l'.flatMap Pk.cells) HBG.out (flat3 l') HNC.out HCM.out HLT'.out HJ.out (Pk.oneCells l')).mono ?_
    rintro r W3 ⟨rfl, hB3, hg3⟩
    have HB3' := Lib.hid hB3; have HG3 := Lib.hid hg3
    have hX3 := HX2.out.grown hg3 (fun e => by have e3 : g = w.heap.size := (by simpa using e); have := HGB.out; omega)
    have hB3' := HB2.out.grown hg3 (fun e => HNE.out (by simpa using e))
    have hb3 := Below.grownB HBB.out hg3 (by have := HGB.out; omega) HBB.out.size
    have HX3 := Lib.hid hX3; have HB3 := Lib.hid hB3'; have HBB3 := Lib.hid hb3
    clear hB3 hg3 hX3 hB3' hb3
    go_wp2_with (refine stop_store (ty := 25) rfl ?_)
    refine ⟨wpList_store_blk rfl rfl HX3.out (by rfl) (vs := [Value.string f, .string t, .slice (some ⟨b, 0, none⟩) pn pn]) (by rfl) row25 rfl (by simp [Value.oneCell']) ?_⟩
    intro W5 hY5 hg5
    have hb5 := Below.grownB HBB3.out hg5 (Nat.le_refl _) HBB3.out.size
    have hld := run_loadVar_mid W5 w.heap.size 0 25 _ dd hY5.range HU.out HDR.out row25.size
    have HLD := Lib.hid hld
    have hB5 := HB3.out.grown hg5 (fun e => by have e3 : w.heap.size = b := (by simpa using e); have := HWB.out; omega)
    have hp5 : Pks W5 (some ⟨g, 0, none⟩) (l'.length - 1) cap (l'.take k ++ l'.drop (k + 1)) := by
      have hgb := HGB.out
      refine HO2.out.del HLT'.out HJ.out (HB3'.out.imp fun zs h => h.grown hg5 (fun e => by have e3 : w.heap.size = g := (by simpa using e); omega)) (fun x cs hx hne h => (h.grown HG3.out (fun e => hne (by simpa using e.symm))).grown hg5 (fun e => by have e3 : w.heap.size = x := (by simpa using e); omega))
    have HF : Hid (TakeOk w R (.returned (.tuple #[.agg #[Value.string f, .string t, .slice (some ⟨b, 0, none⟩) pn pn], .slice (some ⟨g, 0, none⟩) (l'.length - 1) cap, .int .i64 0])) W5) :=
      ⟨⟨f, t, some ⟨b, 0, none⟩, pn, pn, pb⟩, _, _, cap, _, by rw [HR.out]; rfl, ⟨⟨HQL.out.1, hB5.cells⟩, HQL.out.2.1, HQL.out.2.2.1, HQL.out.2.2.2⟩, by rw [HR.out]; rfl, hp5, by rw [HR.out, List.map_append, List.map_take, List.map_drop, HD.out], hb5⟩
    clear hb5 hY5 hg5 hld hp5 hB5
    go_wp2
    have hld := HLD.out
    refine bodyPost_ret (v := .tuple #[.agg #[Value.string f, .string t, .slice (some ⟨b, 0, none⟩) pn pn], .slice (some ⟨g, 0, none⟩) (l'.length - 1) cap, .int .i64 0]) ?_ rfl HF.out
    simp [results, Try.results8, asAddr, hld]
end Go.Proofs.Ythnfbbnpjfjaiaa
