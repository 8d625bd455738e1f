/-
  The law's walk: all moves.
-/
import Derived.Test.YthnfbbnpjfjaiaaWo
import Derived.Test.YthnfbbnpjfjaiaaWc
import Derived.Test.YthnfbbnpjfjaiaaWh
namespace Go.Proofs.Ythnfbbnpjfjaiaa
open Go.RowKit Go.Proofs.Ythnfbbnpjfjaiaa.Plan Go.Proofs.Ythnfbbnpjfjaiaa.Eager
set_option maxHeartbeats 4000000
set_option maxRecDepth 40000
set_option linter.unusedVariables false
set_option linter.unusedSimpArgs false

theorem mailMoves4 (l : List Pk) (p : Pk) (i m : Int) (z : UInt8) (w : World) (oa : Option Addr) (n c : Nat) (h : Pks w oa n c l) (hp : p.Ok w) :
    Calls Try.prog 4 #[.slice oa n c, .agg #[.string p.frm, .string p.to, .slice p.oa p.n p.c], .int .i64 i, .int .i64 m, .int .u8 (z.toNat : Int)] w fun r w' => r = .returned (.bool true) ∧ Below w.heap.size w w' := by
  obtain rfl : n = l.length := h.rows.len
  obtain ⟨f, t, po, pn, pc, pb⟩ := p
  simp only
  have hal : Below w.heap.size w (w.alloc (.cells #[Value.string f, .string t, .slice po pn pc] 25)) := (Below.refl _ _).alloc (Nat.le_refl _) _
  have hX := Blk.new w [Value.string f, .string t, .slice po pn pc] 25
  have HB := Lib.hid hal; have HX := Lib.hid hX
  have H := Lib.hid (h.below hal); have HP := Lib.hid (hp.below hal); clear h hp hal hX
  go_enter Try.func4, Try.ntmps4
  go_wp2_with fail
  refine (great6 l _ oa _ c H.out).mono ?_
  rintro r w2 ⟨b, rfl, hbl, hb2⟩
  replace HB := Lib.hid (below_step HB.out hb2)
  replace HX := Lib.hid (HX.out.later hb2)
  replace H := Lib.hid (H.out.below hb2)
  replace HP := Lib.hid (HP.out.below hb2)
  clear hb2
  have HBL := Lib.hid hbl; clear hbl
  have c0 : w2.cell? ⟨w.heap.size, 0, none⟩ = some (.string f) := HX.out.at' 0 (by simp)
  have c1 : w2.cell? ⟨w.heap.size, 1, none⟩ = some (.string t) := HX.out.at' 1 (by simp)
  have c2 : w2.cell? ⟨w.heap.size, 2, none⟩ = some (.slice po pn pc) := HX.out.at' 2 (by simp)
  cases b with
  | true =>
    go_wp2_with fail
    refine (works5 _).mono ?_
    rintro r wx ⟨rfl, hbx⟩
    have HBX := Lib.hid (below_step HB.out hbx)
    clear hbx
    go_wp2
    refine bodyPost_ret (v := .bool true) (by simp [results, Try.results4, go_sem]) rfl ⟨rfl, HBX.out⟩
  | false =>
  have hpl : l.length ≤ 1000 := by have := HBL.out rfl; omega
  have HPL := Lib.hid hpl; clear hpl
  by_cases g1 : (5000 : Int) < (pn : Int)
  · go_wp2_with fail
    refine (works5 _).mono ?_
    rintro r wx ⟨rfl, hbx⟩
    have HBX := Lib.hid (below_step HB.out hbx)
    clear hbx
    go_wp2
    refine bodyPost_ret (v := .bool true) (by simp [results, Try.results4, go_sem]) rfl ⟨rfl, HBX.out⟩
  by_cases g2 : (3000 : Int) < (t.size : Int)
  · go_wp2_with fail
    refine (works5 _).mono ?_
    rintro r wx ⟨rfl, hbx⟩
    have HBX := Lib.hid (below_step HB.out hbx)
    clear hbx
    go_wp2
    refine bodyPost_ret (v := .bool true) (by simp [results, Try.results4, go_sem]) rfl ⟨rfl, HBX.out⟩
  by_cases g3 : (3000 : Int) < (f.size : Int)
  · go_wp2_with fail
    refine (works5 _).mono ?_
    rintro r wx ⟨rfl, hbx⟩
    have HBX := Lib.hid (below_step HB.out hbx)
    clear hbx
    go_wp2
    refine bodyPost_ret (v := .bool true) (by simp [results, Try.results4, go_sem]) rfl ⟨rfl, HBX.out⟩
  go_wp2_with fail
  refine (copy11 l w2 oa _ c H.out (by have := HPL.out; omega)).mono ?_
  rintro r w3 ⟨v0, l0, rfl, hO, hD0, hb3⟩
  clear c0 c1 c2 g1 g2 g3
  replace HB := Lib.hid (below_step HB.out hb3)
  replace HX := Lib.hid (HX.out.later hb3)
  replace H := Lib.hid (H.out.below hb3)
  replace HP := Lib.hid (HP.out.below hb3)
  clear hb3
  obtain ⟨o0, k0, rfl, hp0⟩ := hO.pks
  have HD0 := Lib.hid hD0; have HP0 := Lib.hid hp0; clear hO hD0 hp0
  have hl0 : l0.length = l.length := by have := congrArg List.length HD0.out; simpa using this
  have HL0 : Hid (l0.length ≤ 1000) := by show _ ≤ _; rw [hl0]; exact HPL.out
  clear hl0
  have c0 : w3.cell? ⟨w.heap.size, 0, none⟩ = some (.string f) := HX.out.at' 0 (by simp)
  have c1 : w3.cell? ⟨w.heap.size, 1, none⟩ = some (.string t) := HX.out.at' 1 (by simp)
  have c2 : w3.cell? ⟨w.heap.size, 2, none⟩ = some (.slice po pn pc) := HX.out.at' 2 (by simp)
  obtain ⟨SD, hSD⟩ : ∃ X, sendD (l.map Pk.dat) (Pk.dat ⟨f, t, po, pn, pc, pb⟩) = X := ⟨_, rfl⟩
  have HSD := Lib.hid hSD; clear hSD
  go_wp2_with fail
  refine (send7 l0 ⟨f, t, po, pn, pc, pb⟩ w3 _ _ _ HP0.out HL0.out HP.out).mono ?_
  rintro r w4 ⟨oa1, na1, ca1, la1, rfl, hpa1, hda1, hb4⟩
  rw [HD0.out, HSD.out] at hda1 ⊢
  have HA1 := Lib.hid hpa1; have HDA1 := Lib.hid hda1
  clear c0 c1 c2 hpa1 hda1
  replace HB := Lib.hid (below_step HB.out hb4)
  replace HX := Lib.hid (HX.out.later hb4)
  replace H := Lib.hid (H.out.below hb4)
  replace HP := Lib.hid (HP.out.below hb4)
  replace HP0 := Lib.hid (HP0.out.below hb4)
  clear hb4
  have c0 : w4.cell? ⟨w.heap.size, 0, none⟩ = some (.string f) := HX.out.at' 0 (by simp)
  have c1 : w4.cell? ⟨w.heap.size, 1, none⟩ = some (.string t) := HX.out.at' 1 (by simp)
  have c2 : w4.cell? ⟨w.heap.size, 2, none⟩ = some (.slice po pn pc) := HX.out.at' 2 (by simp)
  go_wp2_with fail
  refine (refSend12 l ⟨f, t, po, pn, pc, pb⟩ w4 oa _ c H.out HPL.out HP.out).mono ?_
  rintro r w5 ⟨oa2, na2, ca2, la2, rfl, hpa2, hda2, hb5⟩
  rw [HSD.out] at hda2 ⊢
  have HA2 := Lib.hid hpa2; have HDA2 := Lib.hid hda2
  clear c0 c1 c2 hpa2 hda2 HSD
  replace HB := Lib.hid (below_step HB.out hb5)
  replace HX := Lib.hid (HX.out.later hb5)
  replace H := Lib.hid (H.out.below hb5)
  replace HP := Lib.hid (HP.out.below hb5)
  replace HP0 := Lib.hid (HP0.out.below hb5)
  replace HA1 := Lib.hid (HA1.out.below hb5)
  clear hb5
  obtain ⟨TD, hTD⟩ : ∃ X, takeD (l.map Pk.dat) i = X := ⟨_, rfl⟩
  have HTD := Lib.hid hTD; clear hTD
  go_wp2_with fail
  refine (take8 l0 i w5 _ _ _ HP0.out HL0.out).mono ?_
  rintro r w6 ⟨q, ob1, nb1, cb1, lb1, rfl, hq, hqd, hpk, hdk, hbk⟩
  rw [HD0.out, HTD.out] at hqd hdk ⊢
  obtain ⟨qf1, qt1, qo1, qn1, qc1, qb1⟩ := q
  have HQ1 := Lib.hid hq; have HQD1 := Lib.hid hqd; have HK1 := Lib.hid hpk; have HKD1 := Lib.hid hdk
  clear hq hqd hpk hdk
  replace HB := Lib.hid (below_step HB.out hbk)
  replace HX := Lib.hid (HX.out.later hbk)
  replace H := Lib.hid (H.out.below hbk)
  replace HP := Lib.hid (HP.out.below hbk)
  replace HP0 := Lib.hid (HP0.out.below hbk)
  replace HA1 := Lib.hid (HA1.out.below hbk)
  replace HA2 := Lib.hid (HA2.out.below hbk)
  clear hbk
  have HZ1 := Lib.hid (Blk.new w6 [Value.string ⟨#[]⟩, .string ⟨#[]⟩, .slice none 0 0] 25)
  simp only [Pk.cells]
  go_wp2_with (refine stop_store (ty := 25) rfl ?_)
  refine ⟨wpList_store_blk rfl rfl HZ1.out (by rfl) (vs := [Value.string qf1, .string qt1, .slice qo1 qn1 qc1]) (by rfl) row25 rfl (by simp [Value.oneCell']) ?_⟩
  intro w7 hY hg
  have hbs : Below w6.heap.size w6 w7 := ((Below.refl w6.heap.size w6).alloc (Nat.le_refl _) (.cells #[Value.string ⟨#[]⟩, .string ⟨#[]⟩, .slice none 0 0] 25)).grown hg (by simp) (fun k hk => by cases hk; exact Nat.le_refl _)
  replace HZ1 := Lib.hid hY
  clear hY hg
  obtain ⟨z1, hz1⟩ : ∃ z, w6.heap.size = z := ⟨_, rfl⟩
  replace HB := Lib.hid (below_step HB.out hbs)
  replace HX := Lib.hid (HX.out.later hbs)
  replace H := Lib.hid (H.out.below hbs)
  replace HP := Lib.hid (HP.out.below hbs)
  replace HP0 := Lib.hid (HP0.out.below hbs)
  replace HA1 := Lib.hid (HA1.out.below hbs)
  replace HA2 := Lib.hid (HA2.out.below hbs)
  replace HK1 := Lib.hid (HK1.out.below hbs)
  replace HQ1 := Lib.hid (HQ1.out.below hbs)
  clear hbs
  rw [hz1] at HZ1 ⊢
  clear hz1
  go_wp2_with fail
  refine (refTake13 l i w7 oa _ c H.out HPL.out).mono ?_
  rintro r w8 ⟨q, ob2, nb2, cb2, lb2, rfl, hq, hqd, hpk, hdk, hbk⟩
  rw [HTD.out] at hqd hdk ⊢
  obtain ⟨qf2, qt2, qo2, qn2, qc2, qb2⟩ := q
  have HQ2 := Lib.hid hq; have HQD2 := Lib.hid hqd; have HK2 := Lib.hid hpk; have HKD2 := Lib.hid hdk
  clear hq hqd hpk hdk
  replace HB := Lib.hid (below_step HB.out hbk)
  replace HX := Lib.hid (HX.out.later hbk)
  replace H := Lib.hid (H.out.below hbk)
  replace HP := Lib.hid (HP.out.below hbk)
  replace HP0 := Lib.hid (HP0.out.below hbk)
  replace HA1 := Lib.hid (HA1.out.below hbk)
  replace HA2 := Lib.hid (HA2.out.below hbk)
  replace HK1 := Lib.hid (HK1.out.below hbk)
  replace HQ1 := Lib.hid (HQ1.out.below hbk)
  replace HZ1 := Lib.hid (HZ1.out.later hbk)
  clear hbk
  have HZ2 := Lib.hid (Blk.new w8 [Value.string ⟨#[]⟩, .string ⟨#[]⟩, .slice none 0 0] 25)
  simp only [Pk.cells]
  go_wp2_with (refine stop_store (ty := 25) rfl ?_)
  refine ⟨wpList_store_blk rfl rfl HZ2.out (by rfl) (vs := [Value.string qf2, .string qt2, .slice qo2 qn2 qc2]) (by rfl) row25 rfl (by simp [Value.oneCell']) ?_⟩
  intro w9 hY hg
  have hbs : Below w8.heap.size w8 w9 := ((Below.refl w8.heap.size w8).alloc (Nat.le_refl _) (.cells #[Value.string ⟨#[]⟩, .string ⟨#[]⟩, .slice none 0 0] 25)).grown hg (by simp) (fun k hk => by cases hk; exact Nat.le_refl _)
  replace HZ2 := Lib.hid hY
  clear hY hg
  obtain ⟨z2, hz2⟩ : ∃ z, w8.heap.size = z := ⟨_, rfl⟩
  replace HB := Lib.hid (below_step HB.out hbs)
  replace HX := Lib.hid (HX.out.later hbs)
  replace H := Lib.hid (H.out.below hbs)
  replace HP := Lib.hid (HP.out.below hbs)
  replace HP0 := Lib.hid (HP0.out.below hbs)
  replace HA1 := Lib.hid (HA1.out.below hbs)
  replace HA2 := Lib.hid (HA2.out.below hbs)
  replace HK1 := Lib.hid (HK1.out.below hbs)
  replace HQ1 := Lib.hid (HQ1.out.below hbs)
  replace HZ1 := Lib.hid (HZ1.out.later hbs)
  replace HK2 := Lib.hid (HK2.out.below hbs)
  replace HQ2 := Lib.hid (HQ2.out.below hbs)
  clear hbs
  rw [hz2] at HZ2 ⊢
  clear hz2
  clear HTD
  obtain ⟨DD, hDD⟩ : ∃ X, doubleD (l.map Pk.dat) i = X := ⟨_, rfl⟩
  have HDD := Lib.hid hDD; clear hDD
  go_wp2_with fail
  refine (double14 l0 i w9 _ _ _ HP0.out HL0.out).mono ?_
  rintro r w10 ⟨oc1, nc1, cc1, lc1, rfl, hpk, hdk, hbk⟩
  rw [HD0.out, HDD.out] at hdk ⊢
  have HC1 := Lib.hid hpk; have HCD1 := Lib.hid hdk
  clear hpk hdk
  replace HB := Lib.hid (below_step HB.out hbk)
  replace HX := Lib.hid (HX.out.later hbk)
  replace H := Lib.hid (H.out.below hbk)
  replace HP := Lib.hid (HP.out.below hbk)
  replace HP0 := Lib.hid (HP0.out.below hbk)
  replace HA1 := Lib.hid (HA1.out.below hbk)
  replace HA2 := Lib.hid (HA2.out.below hbk)
  replace HK1 := Lib.hid (HK1.out.below hbk)
  replace HQ1 := Lib.hid (HQ1.out.below hbk)
  replace HZ1 := Lib.hid (HZ1.out.later hbk)
  replace HK2 := Lib.hid (HK2.out.below hbk)
  replace HQ2 := Lib.hid (HQ2.out.below hbk)
  replace HZ2 := Lib.hid (HZ2.out.later hbk)
  clear hbk
  go_wp2_with fail
  refine (refDouble15 l i w10 oa _ c H.out HPL.out).mono ?_
  rintro r w11 ⟨oc2, nc2, cc2, lc2, rfl, hpk, hdk, hbk⟩
  rw [HDD.out] at hdk ⊢
  have HC2 := Lib.hid hpk; have HCD2 := Lib.hid hdk
  clear hpk hdk HDD
  replace HB := Lib.hid (below_step HB.out hbk)
  replace HX := Lib.hid (HX.out.later hbk)
  replace H := Lib.hid (H.out.below hbk)
  replace HP := Lib.hid (HP.out.below hbk)
  replace HP0 := Lib.hid (HP0.out.below hbk)
  replace HA1 := Lib.hid (HA1.out.below hbk)
  replace HA2 := Lib.hid (HA2.out.below hbk)
  replace HK1 := Lib.hid (HK1.out.below hbk)
  replace HQ1 := Lib.hid (HQ1.out.below hbk)
  replace HZ1 := Lib.hid (HZ1.out.later hbk)
  replace HK2 := Lib.hid (HK2.out.below hbk)
  replace HQ2 := Lib.hid (HQ2.out.below hbk)
  replace HZ2 := Lib.hid (HZ2.out.later hbk)
  replace HC1 := Lib.hid (HC1.out.below hbk)
  clear hbk
  obtain ⟨CD, hCD⟩ : ∃ X, changeD (l.map Pk.dat) i m z = X := ⟨_, rfl⟩
  have HCD := Lib.hid hCD; clear hCD
  go_wp2_with fail
  refine (change10 l0 i m z w11 _ _ _ HP0.out HL0.out).mono ?_
  rintro r w12 ⟨od1, nd1, cd1, ld1, rfl, hpk, hdk, hbk⟩
  rw [HD0.out, HCD.out] at hdk ⊢
  have HE1 := Lib.hid hpk; have HED1 := Lib.hid hdk
  clear hpk hdk
  replace HB := Lib.hid (below_step HB.out hbk)
  replace HX := Lib.hid (HX.out.later hbk)
  replace H := Lib.hid (H.out.below hbk)
  replace HP := Lib.hid (HP.out.below hbk)
  replace HP0 := Lib.hid (HP0.out.below hbk)
  replace HA1 := Lib.hid (HA1.out.below hbk)
  replace HA2 := Lib.hid (HA2.out.below hbk)
  replace HK1 := Lib.hid (HK1.out.below hbk)
  replace HQ1 := Lib.hid (HQ1.out.below hbk)
  replace HZ1 := Lib.hid (HZ1.out.later hbk)
  replace HK2 := Lib.hid (HK2.out.below hbk)
  replace HQ2 := Lib.hid (HQ2.out.below hbk)
  replace HZ2 := Lib.hid (HZ2.out.later hbk)
  replace HC1 := Lib.hid (HC1.out.below hbk)
  replace HC2 := Lib.hid (HC2.out.below hbk)
  clear hbk
  go_wp2_with fail
  refine (refChange16 l i m z w12 oa _ c H.out HPL.out).mono ?_
  rintro r w13 ⟨od2, nd2, cd2, ld2, rfl, hpk, hdk, hbk⟩
  rw [HCD.out] at hdk ⊢
  have HE2 := Lib.hid hpk; have HED2 := Lib.hid hdk
  clear hpk hdk HCD
  replace HB := Lib.hid (below_step HB.out hbk)
  replace HX := Lib.hid (HX.out.later hbk)
  replace H := Lib.hid (H.out.below hbk)
  replace HP := Lib.hid (HP.out.below hbk)
  replace HP0 := Lib.hid (HP0.out.below hbk)
  replace HA1 := Lib.hid (HA1.out.below hbk)
  replace HA2 := Lib.hid (HA2.out.below hbk)
  replace HK1 := Lib.hid (HK1.out.below hbk)
  replace HQ1 := Lib.hid (HQ1.out.below hbk)
  replace HZ1 := Lib.hid (HZ1.out.later hbk)
  replace HK2 := Lib.hid (HK2.out.below hbk)
  replace HQ2 := Lib.hid (HQ2.out.below hbk)
  replace HZ2 := Lib.hid (HZ2.out.later hbk)
  replace HC1 := Lib.hid (HC1.out.below hbk)
  replace HC2 := Lib.hid (HC2.out.below hbk)
  replace HE1 := Lib.hid (HE1.out.below hbk)
  clear hbk
  obtain ⟨Sl, Se⟩ := SD
  obtain ⟨Tq, Tl, Te⟩ := TD
  obtain ⟨Dl, De⟩ := DD
  obtain ⟨Cl, Ce⟩ := CD
  simp only at HDA1 HDA2 HKD1 HKD2 HQD1 HQD2 HCD1 HCD2 HED1 HED2 ⊢
  go_wp2_with fail
  refine (same9 la1 la2 w13 _ _ _ _ _ _ HA1.out HA2.out).mono ?_
  rintro r w14 ⟨rfl, hbk⟩
  rw [show sameB la1 la2 = true from by unfold sameB; rw [HDA1.out, HDA2.out]; simp]
  replace HB := Lib.hid (below_step HB.out hbk)
  replace HX := Lib.hid (HX.out.later hbk)
  replace H := Lib.hid (H.out.below hbk)
  replace HP := Lib.hid (HP.out.below hbk)
  replace HP0 := Lib.hid (HP0.out.below hbk)
  replace HA1 := Lib.hid (HA1.out.below hbk)
  replace HA2 := Lib.hid (HA2.out.below hbk)
  replace HK1 := Lib.hid (HK1.out.below hbk)
  replace HQ1 := Lib.hid (HQ1.out.below hbk)
  replace HZ1 := Lib.hid (HZ1.out.later hbk)
  replace HK2 := Lib.hid (HK2.out.below hbk)
  replace HQ2 := Lib.hid (HQ2.out.below hbk)
  replace HZ2 := Lib.hid (HZ2.out.later hbk)
  replace HC1 := Lib.hid (HC1.out.below hbk)
  replace HC2 := Lib.hid (HC2.out.below hbk)
  replace HE1 := Lib.hid (HE1.out.below hbk)
  replace HE2 := Lib.hid (HE2.out.below hbk)
  clear hbk
  go_wp2_with fail
  refine (same9 lb1 lb2 w14 _ _ _ _ _ _ HK1.out HK2.out).mono ?_
  rintro r w15 ⟨rfl, hbk⟩
  rw [show sameB lb1 lb2 = true from by unfold sameB; rw [HKD1.out, HKD2.out]; simp]
  replace HB := Lib.hid (below_step HB.out hbk)
  replace HX := Lib.hid (HX.out.later hbk)
  replace H := Lib.hid (H.out.below hbk)
  replace HP := Lib.hid (HP.out.below hbk)
  replace HP0 := Lib.hid (HP0.out.below hbk)
  replace HA1 := Lib.hid (HA1.out.below hbk)
  replace HA2 := Lib.hid (HA2.out.below hbk)
  replace HK1 := Lib.hid (HK1.out.below hbk)
  replace HQ1 := Lib.hid (HQ1.out.below hbk)
  replace HZ1 := Lib.hid (HZ1.out.later hbk)
  replace HK2 := Lib.hid (HK2.out.below hbk)
  replace HQ2 := Lib.hid (HQ2.out.below hbk)
  replace HZ2 := Lib.hid (HZ2.out.later hbk)
  replace HC1 := Lib.hid (HC1.out.below hbk)
  replace HC2 := Lib.hid (HC2.out.below hbk)
  replace HE1 := Lib.hid (HE1.out.below hbk)
  replace HE2 := Lib.hid (HE2.out.below hbk)
  clear hbk
  have d0 : w15.cell? ⟨z1, 0, none⟩ = some (.string qf1) := HZ1.out.at' 0 (by simp)
  have d1 : w15.cell? ⟨z1, 1, none⟩ = some (.string qt1) := HZ1.out.at' 1 (by simp)
  have d2 : w15.cell? ⟨z1, 2, none⟩ = some (.slice qo1 qn1 qc1) := HZ1.out.at' 2 (by simp)
  have e0 : w15.cell? ⟨z2, 0, none⟩ = some (.string qf2) := HZ2.out.at' 0 (by simp)
  have e1 : w15.cell? ⟨z2, 1, none⟩ = some (.string qt2) := HZ2.out.at' 1 (by simp)
  have e2 : w15.cell? ⟨z2, 2, none⟩ = some (.slice qo2 qn2 qc2) := HZ2.out.at' 2 (by simp)
  have l1 : z1 < w15.heap.size := HZ1.out.lt
  have l2 : z2 < w15.heap.size := HZ2.out.lt
  have hA : Below w15.heap.size w15 (w15.alloc (.cells #[Value.string qf1, .string qt1, .slice qo1 qn1 qc1] 25)) := (Below.refl _ _).alloc (Nat.le_refl _) _
  have hY1 := Blk.new w15 [Value.string qf1, .string qt1, .slice qo1 qn1 qc1] 25
  have hA2 := hA.alloc hA.size (.cells #[Value.string qf2, .string qt2, .slice qo2 qn2 qc2] 25)
  have hY2 := Blk.new (w15.alloc (.cells #[Value.string qf1, .string qt1, .slice qo1 qn1 qc1] 25)) [Value.string qf2, .string qt2, .slice qo2 qn2 qc2] 25
  have hY1' := hY1.alloc (.cells #[Value.string qf2, .string qt2, .slice qo2 qn2 qc2] 25)
  have hs1 : Pks ((w15.alloc (.cells #[Value.string qf1, .string qt1, .slice qo1 qn1 qc1] 25)).alloc (.cells #[Value.string qf2, .string qt2, .slice qo2 qn2 qc2] 25)) (some ⟨w15.heap.size, 0, none⟩) 1 1 [⟨qf1, qt1, qo1, qn1, qc1, qb1⟩] :=
    ⟨⟨rfl, by simpa [Pk.cells] using hY1'.cells⟩, Nat.le_refl _, by simp [maxLen], fun q hq => by obtain rfl : q = _ := (by simpa using hq); exact HQ1.out.below hA2⟩
  have hs2 : Pks ((w15.alloc (.cells #[Value.string qf1, .string qt1, .slice qo1 qn1 qc1] 25)).alloc (.cells #[Value.string qf2, .string qt2, .slice qo2 qn2 qc2] 25)) (some ⟨w15.heap.size + 1, 0, none⟩) 1 1 [⟨qf2, qt2, qo2, qn2, qc2, qb2⟩] :=
    ⟨⟨rfl, by simpa [Pk.cells] using hY2.cells⟩, Nat.le_refl _, by simp [maxLen], fun q hq => by obtain rfl : q = _ := (by simpa using hq); exact HQ2.out.below hA2⟩
  have HS1 := Lib.hid hs1; have HS2 := Lib.hid hs2
  clear hA hY1 hY2 hY1' hs1 hs2
  replace HB := Lib.hid (below_step HB.out hA2)
  replace HX := Lib.hid (HX.out.later hA2)
  replace H := Lib.hid (H.out.below hA2)
  replace HP := Lib.hid (HP.out.below hA2)
  replace HP0 := Lib.hid (HP0.out.below hA2)
  replace HA1 := Lib.hid (HA1.out.below hA2)
  replace HA2 := Lib.hid (HA2.out.below hA2)
  replace HK1 := Lib.hid (HK1.out.below hA2)
  replace HQ1 := Lib.hid (HQ1.out.below hA2)
  replace HZ1 := Lib.hid (HZ1.out.later hA2)
  replace HK2 := Lib.hid (HK2.out.below hA2)
  replace HQ2 := Lib.hid (HQ2.out.below hA2)
  replace HZ2 := Lib.hid (HZ2.out.later hA2)
  replace HC1 := Lib.hid (HC1.out.below hA2)
  replace HC2 := Lib.hid (HC2.out.below hA2)
  replace HE1 := Lib.hid (HE1.out.below hA2)
  replace HE2 := Lib.hid (HE2.out.below hA2)
  clear hA2
  go_wp2_with fail
  refine (same9 [⟨qf1, qt1, qo1, qn1, qc1, qb1⟩] [⟨qf2, qt2, qo2, qn2, qc2, qb2⟩] _ _ _ 1 1 1 1 HS1.out HS2.out).mono ?_
  rintro r w16 ⟨rfl, hbk⟩
  rw [show sameB [(⟨qf1, qt1, qo1, qn1, qc1, qb1⟩ : Pk)] [⟨qf2, qt2, qo2, qn2, qc2, qb2⟩] = true from by unfold sameB; simp only [List.map_cons, List.map_nil]; rw [HQD1.out, HQD2.out]; simp]
  clear d0 d1 d2 e0 e1 e2 l1 l2 HS1 HS2
  replace HB := Lib.hid (below_step HB.out hbk)
  replace HX := Lib.hid (HX.out.later hbk)
  replace H := Lib.hid (H.out.below hbk)
  replace HP := Lib.hid (HP.out.below hbk)
  replace HP0 := Lib.hid (HP0.out.below hbk)
  replace HA1 := Lib.hid (HA1.out.below hbk)
  replace HA2 := Lib.hid (HA2.out.below hbk)
  replace HK1 := Lib.hid (HK1.out.below hbk)
  replace HQ1 := Lib.hid (HQ1.out.below hbk)
  replace HZ1 := Lib.hid (HZ1.out.later hbk)
  replace HK2 := Lib.hid (HK2.out.below hbk)
  replace HQ2 := Lib.hid (HQ2.out.below hbk)
  replace HZ2 := Lib.hid (HZ2.out.later hbk)
  replace HC1 := Lib.hid (HC1.out.below hbk)
  replace HC2 := Lib.hid (HC2.out.below hbk)
  replace HE1 := Lib.hid (HE1.out.below hbk)
  replace HE2 := Lib.hid (HE2.out.below hbk)
  clear hbk
  go_wp2
  refine wp_region_plan none [] [] (.take 0 (.take 1 (.one 2 (.take 3 (.take 4 (.take 5 (.take 6 (.take 7 (.take 8 (.take 9 (.take 10 (.one 11 (.take 12 (.take 13 (.take 14 (.take 15 (.take 16 (.take 17 (.take 18 (.take 19 (.take 20 (.one 21 (.take 22 (.take 23 (.take 24 (.take 25 (.take 26 (.take 28 (.take 29 (.take 30 (.one 27 (.one 31 (.take 32 (.take 33 (.take 34 (.one 35 (.take 36 (.take 37 .done)))))))))))))))))))))))))))))))))))))) (by kernel_rfl) (by kernel_rfl) (fun _ _ dd _ _ h => by cases dd <;> exact h) ?_
  intro W0 hW0
  have hbW := HB.out.drew
  have kHX := HX.out.later (below_drew w16)
  have kH := H.out.below (below_drew w16)
  have kHP0 := HP0.out.below (below_drew w16)
  have kHC1 := HC1.out.below (below_drew w16)
  have kHC2 := HC2.out.below (below_drew w16)
  have kHE1 := HE1.out.below (below_drew w16)
  have kHE2 := HE2.out.below (below_drew w16)
  rw [← hW0] at hbW kHX kH kHP0 kHC1 kHC2 kHE1 kHE2
  clear hW0 HX H HP HP0 HA1 HA2 HK1 HQ1 HZ1 HK2 HQ2 HZ2 HC1 HC2 HE1 HE2 HB
  (refine pl_take (d := 135) (v := ?_) rfl rfl rfl ?_ ?_; rotate_left; (focus ((intro w' hb0 hw'; go_simp) <;> with_reducible rfl)); simp only [Act.put, List.setIfInBounds_toArray, List.set_cons_zero, List.set_cons_succ])
  (refine pl_take (d := 136) (v := ?_) rfl rfl rfl ?_ ?_; rotate_left; (focus ((intro w' hb0 hw'; go_simp) <;> with_reducible rfl)); simp only [Act.put, List.setIfInBounds_toArray, List.set_cons_zero, List.set_cons_succ])
  refine pl_one rfl rfl (fun K hK => ?_)
  go_simp
  refine (same9 lc1 lc2 W0 _ _ _ _ _ _ kHC1 kHC2).mono ?_
  rintro r W1 ⟨rfl, hbk⟩
  rw [show sameB lc1 lc2 = true from by unfold sameB; rw [HCD1.out, HCD2.out]; simp]
  refine hK _ _ (hbk : Rel none W0 W1) ?_
  clear hK
  replace hbW := below_step hbW hbk
  replace kHX := kHX.later hbk
  replace kH := kH.below hbk
  replace kHP0 := kHP0.below hbk
  replace kHE1 := kHE1.below hbk
  replace kHE2 := kHE2.below hbk
  clear hbk
  (refine pl_take (d := 138) (v := ?_) rfl rfl rfl ?_ ?_; rotate_left; (focus ((intro w' hb0 hw'; go_simp) <;> with_reducible rfl)); simp only [Act.put, List.setIfInBounds_toArray, List.set_cons_zero, List.set_cons_succ])
  (refine pl_take (d := 139) (v := ?_) rfl rfl rfl ?_ ?_; rotate_left; (focus ((intro w' hb0 hw'; go_simp) <;> with_reducible rfl)); simp only [Act.put, List.setIfInBounds_toArray, List.set_cons_zero, List.set_cons_succ])
  (refine pl_take (d := 140) (v := ?_) rfl rfl rfl ?_ ?_; rotate_left; (focus ((intro w' hb0 hw'; go_simp) <;> with_reducible rfl)); simp only [Act.put, List.setIfInBounds_toArray, List.set_cons_zero, List.set_cons_succ])
  (refine pl_take (d := 141) (v := ?_) rfl rfl rfl ?_ ?_; rotate_left; (focus ((intro w' hb0 hw'; go_simp) <;> with_reducible rfl)); simp only [Act.put, List.setIfInBounds_toArray, List.set_cons_zero, List.set_cons_succ])
  (refine pl_take (d := 142) (v := ?_) rfl rfl rfl ?_ ?_; rotate_left; (focus ((intro w' hb0 hw'; go_simp) <;> with_reducible rfl)); simp only [Act.put, List.setIfInBounds_toArray, List.set_cons_zero, List.set_cons_succ])
  (refine pl_take (d := 143) (v := ?_) rfl rfl rfl ?_ ?_; rotate_left; (focus ((intro w' hb0 hw'; go_simp) <;> with_reducible rfl)); simp only [Act.put, List.setIfInBounds_toArray, List.set_cons_zero, List.set_cons_succ])
  (refine pl_take (d := 144) (v := ?_) rfl rfl rfl ?_ ?_; rotate_left; (focus ((intro w' hb0 hw'; go_simp) <;> with_reducible rfl)); simp only [Act.put, List.setIfInBounds_toArray, List.set_cons_zero, List.set_cons_succ])
  (refine pl_take (d := 145) (v := ?_) rfl rfl rfl ?_ ?_; rotate_left; (focus ((intro w' hb0 hw'; go_simp) <;> with_reducible rfl)); simp only [Act.put, List.setIfInBounds_toArray, List.set_cons_zero, List.set_cons_succ])
  refine pl_one rfl rfl (fun K hK => ?_)
  go_simp
  refine (same9 ld1 ld2 W1 _ _ _ _ _ _ kHE1 kHE2).mono ?_
  rintro r W2 ⟨rfl, hbk⟩
  rw [show sameB ld1 ld2 = true from by unfold sameB; rw [HED1.out, HED2.out]; simp]
  refine hK _ _ (hbk : Rel none W1 W2) ?_
  clear hK
  replace hbW := below_step hbW hbk
  replace kHX := kHX.later hbk
  replace kH := kH.below hbk
  replace kHP0 := kHP0.below hbk
  clear hbk
  (refine pl_take (d := 147) (v := ?_) rfl rfl rfl ?_ ?_; rotate_left; (focus ((intro w' hb0 hw'; go_simp) <;> with_reducible rfl)); simp only [Act.put, List.setIfInBounds_toArray, List.set_cons_zero, List.set_cons_succ])
  (refine pl_take (d := 148) (v := ?_) rfl rfl rfl ?_ ?_; rotate_left; (focus ((intro w' hb0 hw'; go_simp) <;> with_reducible rfl)); simp only [Act.put, List.setIfInBounds_toArray, List.set_cons_zero, List.set_cons_succ])
  (refine pl_take (d := 149) (v := ?_) rfl rfl rfl ?_ ?_; rotate_left; (focus ((intro w' hb0 hw'; go_simp) <;> with_reducible rfl)); simp only [Act.put, List.setIfInBounds_toArray, List.set_cons_zero, List.set_cons_succ])
  (refine pl_take (d := 150) (v := ?_) rfl rfl rfl ?_ ?_; rotate_left; (focus ((intro w' hb0 hw'; go_simp) <;> with_reducible rfl)); simp only [Act.put, List.setIfInBounds_toArray, List.set_cons_zero, List.set_cons_succ])
  (refine pl_take (d := 151) (v := ?_) rfl rfl rfl ?_ ?_; rotate_left; (focus ((intro w' hb0 hw'; go_simp) <;> with_reducible rfl)); simp only [Act.put, List.setIfInBounds_toArray, List.set_cons_zero, List.set_cons_succ])
  (refine pl_take (d := 152) (v := ?_) rfl rfl rfl ?_ ?_; rotate_left; (focus ((intro w' hb0 hw'; go_simp) <;> with_reducible rfl)); simp only [Act.put, List.setIfInBounds_toArray, List.set_cons_zero, List.set_cons_succ])
  (refine pl_take (d := 153) (v := ?_) rfl rfl rfl ?_ ?_; rotate_left; (focus ((intro w' hb0 hw'; go_simp) <;> with_reducible rfl)); simp only [Act.put, List.setIfInBounds_toArray, List.set_cons_zero, List.set_cons_succ])
  (refine pl_take (d := 154) (v := ?_) rfl rfl rfl ?_ ?_; rotate_left; (focus ((intro w' hb0 hw'; go_simp) <;> with_reducible rfl)); simp only [Act.put, List.setIfInBounds_toArray, List.set_cons_zero, List.set_cons_succ])
  (refine pl_take (d := 155) (v := ?_) rfl rfl rfl ?_ ?_; rotate_left; (focus ((intro w' hb0 hw'; go_simp) <;> with_reducible rfl)); simp only [Act.put, List.setIfInBounds_toArray, List.set_cons_zero, List.set_cons_succ])
  refine pl_one rfl rfl (fun K hK => ?_)
  go_simp
  refine (same9 l0 l W2 _ _ _ _ _ _ kHP0 kH).mono ?_
  rintro r W3 ⟨rfl, hbk⟩
  rw [show sameB l0 l = true from by unfold sameB; rw [HD0.out]; simp]
  refine hK _ _ (hbk : Rel none W2 W3) ?_
  clear hK
  replace hbW := below_step hbW hbk
  replace kHX := kHX.later hbk
  replace kH := kH.below hbk
  clear hbk
  (refine pl_take (d := 157) (v := ?_) rfl rfl rfl ?_ ?_; rotate_left; (focus ((intro w' hb0 hw'; go_simp) <;> with_reducible rfl)); simp only [Act.put, List.setIfInBounds_toArray, List.set_cons_zero, List.set_cons_succ])
  (refine pl_take (d := 158) (v := ?_) rfl rfl rfl ?_ ?_; rotate_left; (focus ((intro w' hb0 hw'; go_simp) <;> with_reducible rfl)); simp only [Act.put, List.setIfInBounds_toArray, List.set_cons_zero, List.set_cons_succ])
  (refine pl_take (d := 159) (v := ?_) rfl rfl rfl ?_ ?_; rotate_left; (focus ((intro w' hb0 hw'; go_simp) <;> with_reducible rfl)); simp only [Act.put, List.setIfInBounds_toArray, List.set_cons_zero, List.set_cons_succ])
  (refine pl_take (d := 160) (v := ?_) rfl rfl rfl ?_ ?_; rotate_left; (focus ((intro w' hb0 hw'; go_simp) <;> with_reducible rfl)); simp only [Act.put, List.setIfInBounds_toArray, List.set_cons_zero, List.set_cons_succ])
  (refine pl_take (d := 161) (v := ?_) rfl rfl rfl ?_ ?_; rotate_left; (focus ((intro w' hb0 hw'; have c1 := (kHX.later (show Below W3.heap.size W3 w' from hw')).at' 1 (by simp); simp only [List.getElem_cons_succ, List.getElem_cons_zero] at c1; go_simp) <;> with_reducible rfl)); simp only [Act.put, List.setIfInBounds_toArray, List.set_cons_zero, List.set_cons_succ])
  (refine pl_take (d := 163) (v := ?_) rfl rfl rfl ?_ ?_; rotate_left; (focus ((intro w' hb0 hw'; go_simp) <;> with_reducible rfl)); simp only [Act.put, List.setIfInBounds_toArray, List.set_cons_zero, List.set_cons_succ])
  (refine pl_take (d := 164) (v := ?_) rfl rfl rfl ?_ ?_; rotate_left; (focus ((intro w' hb0 hw'; go_simp) <;> with_reducible rfl)); simp only [Act.put, List.setIfInBounds_toArray, List.set_cons_zero, List.set_cons_succ])
  (refine pl_take (d := 165) (v := ?_) rfl rfl rfl ?_ ?_; rotate_left; (focus ((intro w' hb0 hw'; have c1 := (kHX.later (show Below W3.heap.size W3 w' from hw')).at' 1 (by simp); simp only [List.getElem_cons_succ, List.getElem_cons_zero] at c1; go_simp) <;> with_reducible rfl)); simp only [Act.put, List.setIfInBounds_toArray, List.set_cons_zero, List.set_cons_succ])
  refine pl_one rfl rfl (fun K hK => ?_)
  go_simp
  refine (for17 l t W3 oa _ c kH).mono ?_
  rintro r W4 ⟨rfl, hbk⟩
  
  refine hK _ _ (hbk : Rel none W3 W4) ?_
  clear hK
  replace hbW := below_step hbW hbk
  replace kHX := kHX.later hbk
  replace kH := kH.below hbk
  clear hbk
  refine pl_one rfl rfl (fun K hK => ?_)
  go_simp
  refine (refFor18 l t W4 oa _ c kH).mono ?_
  rintro r W5 ⟨rfl, hbk⟩
  
  refine hK _ _ (hbk : Rel none W4 W5) ?_
  clear hK
  replace hbW := below_step hbW hbk
  clear hbk
  (refine pl_take (d := 167) (v := ?_) rfl rfl rfl ?_ ?_; rotate_left; (focus ((intro w' hb0 hw'; go_simp) <;> with_reducible rfl)); simp only [Act.put, List.setIfInBounds_toArray, List.set_cons_zero, List.set_cons_succ])
  (refine pl_take (d := 168) (v := ?_) rfl rfl rfl ?_ ?_; rotate_left; (focus ((intro w' hb0 hw'; go_simp) <;> with_reducible rfl)); simp only [Act.put, List.setIfInBounds_toArray, List.set_cons_zero, List.set_cons_succ])
  (refine pl_take (d := 169) (v := ?_) rfl rfl rfl ?_ ?_; rotate_left; (focus ((intro w' hb0 hw'; go_simp) <;> with_reducible rfl)); simp only [Act.put, List.setIfInBounds_toArray, List.set_cons_zero, List.set_cons_succ])
  refine pl_one rfl rfl (fun K hK => ?_)
  go_simp
  refine (works5 W5).mono ?_
  rintro r W6 ⟨rfl, hbk⟩
  
  refine hK _ _ (hbk : Rel none W5 W6) ?_
  clear hK
  replace hbW := below_step hbW hbk
  clear hbk
  (refine pl_take (d := 171) (v := ?_) rfl rfl rfl ?_ ?_; rotate_left; (focus ((intro w' hb0 hw'; go_simp) <;> with_reducible rfl)); simp only [Act.put, List.setIfInBounds_toArray, List.set_cons_zero, List.set_cons_succ])
  (refine pl_take (d := 10) (v := ?_) rfl rfl rfl ?_ ?_; rotate_left; (focus ((intro w' hb0 hw'; go_simp) <;> with_reducible rfl)); simp only [Act.put, List.setIfInBounds_toArray, List.set_cons_zero, List.set_cons_succ])
  refine pl_end ?_
  go_wp2
  refine bodyPost_ret (v := .bool true) (by simp [results, Try.results4, go_sem]) rfl ⟨rfl, hbW⟩
end Go.Proofs.Ythnfbbnpjfjaiaa
