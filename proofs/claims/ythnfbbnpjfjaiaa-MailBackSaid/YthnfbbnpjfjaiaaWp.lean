/-
  The law's walk: what was sent is taken as it was; a byte changed twice.
-/
import Derived.Test.YthnfbbnpjfjaiaaWo
import Derived.Test.YthnfbbnpjfjaiaaWc
import Derived.Test.YthnfbbnpjfjaiaaWh
namespace Go.Proofs.Ythnfbbnpjfjaiaa
open Go.RowKit
set_option maxHeartbeats 1000000
set_option maxRecDepth 20000
set_option linter.unusedVariables false
set_option linter.unusedSimpArgs false

theorem pokeD_back (q : Dat) (m : Nat) (z : UInt8) (hm : m < q.2.2.length) : pokeD (pokeD q m z) m z = q := by
  obtain ⟨f, t, b⟩ := q
  simp only at hm
  simp [pokeD, List.getD, hm, UInt8.xor_assoc]
theorem pokeD_ne (q : Dat) (m : Nat) (z : UInt8) (hm : m < q.2.2.length) (hz : z ≠ 0) : pokeD q m z ≠ q := by
  obtain ⟨f, t, b⟩ := q
  simp only at hm
  intro h
  simp only [pokeD, Prod.mk.injEq, true_and] at h
  have h1 := congrArg (fun l => l[m]?) h
  simp [hm, List.getD] at h1
  apply hz
  have h2 := congrArg (fun x => b[m] ^^^ x) h1
  simpa [← UInt8.xor_assoc] using h2
theorem changeD_back (D : List Dat) (i m : Int) (z : UInt8) :
    changeD (changeD D i m z).1 i m z = (D, (changeD D i m z).2) ∧ (changeD D i m z).1.length = D.length ∧ ((changeD D i m z).2 = 2 ∨ (changeD D i m z).2 = 0 ∧ (z = 0 ∨ (changeD D i m z).1 ≠ D)) := by
  by_cases h1 : i < 0 ∨ (D.length : Int) ≤ i
  · have e : changeD D i m z = (D, 2) := by unfold changeD; rw [if_pos h1]
    rw [e]; exact ⟨e, rfl, .inl rfl⟩
  by_cases h2 : m < 0 ∨ ((D.getD i.toNat noDat).2.2.length : Int) ≤ m
  · have e : changeD D i m z = (D, 2) := by unfold changeD; rw [if_neg h1, if_pos h2]
    rw [e]; exact ⟨e, rfl, .inl rfl⟩
  have e : changeD D i m z = (D.set i.toNat (pokeD (D.getD i.toNat noDat) m.toNat z), 0) := by unfold changeD; rw [if_neg h1, if_neg h2]
  have hk : i.toNat < D.length := by omega
  have hm : m.toNat < (D.getD i.toNat noDat).2.2.length := by omega
  have hg : (D.set i.toNat (pokeD (D.getD i.toNat noDat) m.toNat z)).getD i.toNat noDat = pokeD (D.getD i.toNat noDat) m.toNat z := by simp [List.getD, hk]
  have hgd : D.getD i.toNat noDat = D[i.toNat] := by simp [List.getD, hk]
  rw [e]
  refine ⟨?_, by simp, .inr ⟨rfl, ?_⟩⟩
  · have h2' : ¬ (m < 0 ∨ ((pokeD (D.getD i.toNat noDat) m.toNat z).2.2.length : Int) ≤ m) := by simpa [pokeD] using h2
    unfold changeD
    simp only [List.length_set]
    rw [if_neg h1, hg, if_neg h2', pokeD_back _ _ _ hm, List.set_set, hgd, List.set_getElem_self]
  · by_cases hz : z = 0
    · exact .inl hz
    · refine .inr (fun h => pokeD_ne _ _ _ hm hz ?_)
      have h3 := congrArg (fun l => l.getD i.toNat noDat) h
      simp only at h3
      rw [hg] at h3
      exact h3

theorem takeD_end (D : List Dat) (p : Dat) : takeD (D ++ [p]) (D.length : Int) = (p, D, 0) := by
  unfold takeD
  rw [if_neg (by simp; omega)]
  simp [List.getD]

theorem mailBack3 (l : List Pk) (p : Pk) (i m : Int) (z : UInt8) (w : World) (oa : Option Addr) (n c : Nat) (h : Pks w oa n c l) (hp : p.Ok w) :
    Calls Try.prog 3 #[.slice oa n c, .agg #[.string p.frm, .string p.to, .slice p.oa p.n p.c], .int .i64 i, .int .i64 m, .int .u8 (z.toNat : Int)] w fun r w' => r = .returned (.bool true) ∧ Below w.heap.size w w' := by
  obtain rfl : n = l.length := h.rows.len
  obtain ⟨f, t, po, pn, pc, pb⟩ := p
  simp only
  have hal : Below w.heap.size w (w.alloc (.cells #[Value.string f, .string t, .slice po pn pc] 25)) := (Below.refl _ _).alloc (Nat.le_refl _) _
  have hX := Blk.new w [Value.string f, .string t, .slice po pn pc] 25
  have HAL := Lib.hid hal; have HX := Lib.hid hX; clear hal hX
  have H := Lib.hid h; have HP := Lib.hid hp; clear h hp
  go_enter Try.func3, Try.ntmps3
  go_wp2_with fail
  refine (works5 _).mono ?_
  rintro r w1 ⟨rfl, hb1⟩
  have hb01 := below_step HAL.out hb1
  have hX1 := HX.out.later hb1
  have HB1 := Lib.hid hb01; have HX1 := Lib.hid hX1; clear hb01 hX1 hb1 HX
  go_wp2_with fail
  refine (great6 l w1 oa _ c (H.out.below HB1.out)).mono ?_
  rintro r w2 ⟨b, rfl, hbl, hb2⟩
  have hb02 := below_step HB1.out hb2
  have hX2 := HX1.out.later hb2
  have c0 : w2.cell? ⟨w.heap.size, 0, none⟩ = some (.string f) := hX2.at' 0 (by simp)
  have c1 : w2.cell? ⟨w.heap.size, 1, none⟩ = some (.string t) := hX2.at' 1 (by simp)
  have c2 : w2.cell? ⟨w.heap.size, 2, none⟩ = some (.slice po pn pc) := hX2.at' 2 (by simp)
  have HB2 := Lib.hid hb02; have HX2 := Lib.hid hX2; have HBL := Lib.hid hbl; clear hb02 hX2 hb2 HX1 HB1 hbl
  cases b with
  | true =>
    go_wp2
    refine bodyPost_ret (v := .bool true) (by simp [results, Try.results3, go_sem]) rfl ⟨rfl, HB2.out⟩
  | false =>
  have hll := HBL.out rfl
  have HLL := Lib.hid hll; clear hll
  by_cases g1 : (5000 : Int) < (pn : Int)
  · go_wp2
    refine bodyPost_ret (v := .bool true) (by simp [results, Try.results3, go_sem]) rfl ⟨rfl, HB2.out⟩
  by_cases g2 : (3000 : Int) < (t.size : Int)
  · go_wp2
    refine bodyPost_ret (v := .bool true) (by simp [results, Try.results3, go_sem]) rfl ⟨rfl, HB2.out⟩
  by_cases g3 : (3000 : Int) < (f.size : Int)
  · go_wp2
    refine bodyPost_ret (v := .bool true) (by simp [results, Try.results3, go_sem]) rfl ⟨rfl, HB2.out⟩
  go_wp2_with fail
  have hpl : l.length ≤ 1000 := by have := HLL.out; omega
  have HPL := Lib.hid hpl; clear hpl
  refine (send7 l ⟨f, t, po, pn, pc, pb⟩ w2 oa _ c (H.out.below HB2.out) HPL.out (HP.out.below HB2.out)).mono ?_
  rintro r w3 ⟨o3, n3, c3, l3, rfl, hp3, hd3, hb3⟩
  have hb03 := below_step HB2.out hb3
  have hX3 := HX2.out.later hb3
  have HB3 := Lib.hid hb03; have HX3 := Lib.hid hX3; have HP3 := Lib.hid hp3
  clear hb03 hX3 hb3 HX2 c0 c1 c2 hp3
  clear g1 g2 g3
  have hpn : pn = pb.length := HP.out.reads.len
  by_cases s1 : 2048 < pb.length
  · have es : sendD (l.map Pk.dat) (Pk.dat ⟨f, t, po, pn, pc, pb⟩) = (l.map Pk.dat, 3) := by simp [sendD, Pk.dat, s1]
    rw [es]
    clear es s1 hpn hd3
    simp only
    obtain ⟨hcb, hcl, hce⟩ := changeD_back (l.map Pk.dat) i m z
    go_wp2_with fail
    refine (change10 l i m z w3 oa _ c (H.out.below HB3.out) HPL.out).mono ?_
    rintro r wa ⟨oa1, na, ca, la, rfl, hpa, hda, hba⟩
    have hb0a := below_step HB3.out hba
    obtain ⟨⟨D1, e1⟩, hDE⟩ : ∃ X, changeD (l.map Pk.dat) i m z = X := ⟨_, rfl⟩
    rw [hDE] at hda hcb hcl hce ⊢
    simp only at hda hcb hcl hce ⊢
    have HPA := Lib.hid hpa; have HDA := Lib.hid hda; have HBA := Lib.hid hb0a; have HCB := Lib.hid hcb; have HCL := Lib.hid hcl; have HCE := Lib.hid hce; have HDE := Lib.hid hDE
    clear hpa hda hba hb0a hcb hcl hce hDE
    have hla : la.length ≤ 1000 := by have := congrArg List.length HDA.out; have h2 := HCL.out; simp at this h2; have := HPL.out; omega
    have HLA := Lib.hid hla; clear hla
    go_wp2_with fail
    refine (change10 la i m z wa oa1 na ca HPA.out HLA.out).mono ?_
    rintro r wb ⟨ob, nb, cb, lb, rfl, hpb, hdb, hbb⟩
    rw [HDA.out, HCB.out] at hdb ⊢
    simp only at hdb ⊢
    have hb0b := below_step HBA.out hbb
    have hpa := HPA.out.below hbb
    have HPB := Lib.hid hpb; have HPA2 := Lib.hid hpa; have HDB := Lib.hid hdb; have HBB := Lib.hid hb0b
    clear hpb hdb hbb hb0b hpa HPA HBA
    go_wp2_with fail
    refine (same9 lb l wb ob oa nb _ cb c HPB.out (H.out.below HBB.out)).mono ?_
    rintro r wc ⟨rfl, hbc⟩
    rw [show sameB lb l = true from by unfold sameB; rw [HDB.out]; simp]
    have hb0c := below_step HBB.out hbc
    have hpa := HPA2.out.below hbc
    have HPA3 := Lib.hid hpa; have HBC := Lib.hid hb0c
    clear hbc hb0c hpa HPA2 HBB
    have hce := HCE.out
    rcases hce with h2 | ⟨h0, hz | hd⟩
    · subst h2
      go_wp2
      refine bodyPost_ret (v := .bool true) (by simp [results, Try.results3, go_sem]) rfl ⟨rfl, HBC.out⟩
    · subst h0; subst hz
      go_wp2
      refine bodyPost_ret (v := .bool true) (by simp [results, Try.results3, go_sem]) rfl ⟨rfl, HBC.out⟩
    · subst h0
      have HD := Lib.hid hd; clear hd
      by_cases hz : (z.toNat : Int) = 0
      · go_wp2
        refine bodyPost_ret (v := .bool true) (by simp [results, Try.results3, go_sem]) rfl ⟨rfl, HBC.out⟩
      · go_wp2_with fail
        refine (same9 la l wc oa1 oa na _ ca c HPA3.out (H.out.below HBC.out)).mono ?_
        rintro r wd ⟨rfl, hbd⟩
        rw [show sameB la l = false from by unfold sameB; rw [HDA.out]; exact decide_eq_false HD.out]
        have hb0d := below_step HBC.out hbd
        have HBD := Lib.hid hb0d
        clear hbd hb0d
        go_wp2
        refine bodyPost_ret (v := .bool true) (by simp [results, Try.results3, go_sem]) rfl ⟨rfl, HBD.out⟩
  by_cases s2 : 256 ≤ l.length
  · have es : sendD (l.map Pk.dat) (Pk.dat ⟨f, t, po, pn, pc, pb⟩) = (l.map Pk.dat, 27) := by simp [sendD, Pk.dat, s1, s2]
    rw [es]
    clear es s1 s2 hpn hd3
    simp only
    obtain ⟨hcb, hcl, hce⟩ := changeD_back (l.map Pk.dat) i m z
    go_wp2_with fail
    refine (change10 l i m z w3 oa _ c (H.out.below HB3.out) HPL.out).mono ?_
    rintro r wa ⟨oa1, na, ca, la, rfl, hpa, hda, hba⟩
    have hb0a := below_step HB3.out hba
    obtain ⟨⟨D1, e1⟩, hDE⟩ : ∃ X, changeD (l.map Pk.dat) i m z = X := ⟨_, rfl⟩
    rw [hDE] at hda hcb hcl hce ⊢
    simp only at hda hcb hcl hce ⊢
    have HPA := Lib.hid hpa; have HDA := Lib.hid hda; have HBA := Lib.hid hb0a; have HCB := Lib.hid hcb; have HCL := Lib.hid hcl; have HCE := Lib.hid hce; have HDE := Lib.hid hDE
    clear hpa hda hba hb0a hcb hcl hce hDE
    have hla : la.length ≤ 1000 := by have := congrArg List.length HDA.out; have h2 := HCL.out; simp at this h2; have := HPL.out; omega
    have HLA := Lib.hid hla; clear hla
    go_wp2_with fail
    refine (change10 la i m z wa oa1 na ca HPA.out HLA.out).mono ?_
    rintro r wb ⟨ob, nb, cb, lb, rfl, hpb, hdb, hbb⟩
    rw [HDA.out, HCB.out] at hdb ⊢
    simp only at hdb ⊢
    have hb0b := below_step HBA.out hbb
    have hpa := HPA.out.below hbb
    have HPB := Lib.hid hpb; have HPA2 := Lib.hid hpa; have HDB := Lib.hid hdb; have HBB := Lib.hid hb0b
    clear hpb hdb hbb hb0b hpa HPA HBA
    go_wp2_with fail
    refine (same9 lb l wb ob oa nb _ cb c HPB.out (H.out.below HBB.out)).mono ?_
    rintro r wc ⟨rfl, hbc⟩
    rw [show sameB lb l = true from by unfold sameB; rw [HDB.out]; simp]
    have hb0c := below_step HBB.out hbc
    have hpa := HPA2.out.below hbc
    have HPA3 := Lib.hid hpa; have HBC := Lib.hid hb0c
    clear hbc hb0c hpa HPA2 HBB
    have hce := HCE.out
    rcases hce with h2 | ⟨h0, hz | hd⟩
    · subst h2
      go_wp2
      refine bodyPost_ret (v := .bool true) (by simp [results, Try.results3, go_sem]) rfl ⟨rfl, HBC.out⟩
    · subst h0; subst hz
      go_wp2
      refine bodyPost_ret (v := .bool true) (by simp [results, Try.results3, go_sem]) rfl ⟨rfl, HBC.out⟩
    · subst h0
      have HD := Lib.hid hd; clear hd
      by_cases hz : (z.toNat : Int) = 0
      · go_wp2
        refine bodyPost_ret (v := .bool true) (by simp [results, Try.results3, go_sem]) rfl ⟨rfl, HBC.out⟩
      · go_wp2_with fail
        refine (same9 la l wc oa1 oa na _ ca c HPA3.out (H.out.below HBC.out)).mono ?_
        rintro r wd ⟨rfl, hbd⟩
        rw [show sameB la l = false from by unfold sameB; rw [HDA.out]; exact decide_eq_false HD.out]
        have hb0d := below_step HBC.out hbd
        have HBD := Lib.hid hb0d
        clear hbd hb0d
        go_wp2
        refine bodyPost_ret (v := .bool true) (by simp [results, Try.results3, go_sem]) rfl ⟨rfl, HBD.out⟩
  have es : sendD (l.map Pk.dat) (Pk.dat ⟨f, t, po, pn, pc, pb⟩) = (l.map Pk.dat ++ [(f, t, pb)], 0) := by simp [sendD, Pk.dat, s1, s2]
  rw [es] at hd3 ⊢
  clear es s1 s2
  have HD3 := Lib.hid hd3; have HPN := Lib.hid hpn
  clear hd3 hpn
  have hl3 : l3.length = l.length + 1 := by have := congrArg List.length HD3.out; simpa using this
  have HL3 := Lib.hid hl3; clear hl3
  simp only
  go_wp2_with fail
  refine (take8 l3 (l.length : Int) w3 o3 n3 c3 HP3.out (by have := HL3.out; have := HLL.out; omega)).mono ?_
  rintro r w4 ⟨q, o4, n4, c4, l4, rfl, hq, hqd, hp4, hd4, hb4⟩
  have et : takeD (l3.map Pk.dat) (l.length : Int) = ((f, t, pb), l.map Pk.dat, 0) := by
    rw [HD3.out]
    have := takeD_end (l.map Pk.dat) (f, t, pb)
    rwa [List.length_map] at this
  rw [et] at hqd hd4 ⊢
  obtain ⟨qf, qt, qo, qn, qc, qb⟩ := q
  simp only [Pk.dat, Prod.mk.injEq] at hqd
  obtain ⟨rfl, rfl, rfl⟩ := hqd
  have hb04 := below_step HB3.out hb4
  have hX4 := HX3.out.later hb4
  have HQ := Lib.hid hq; have HP4 := Lib.hid hp4; have HD4 := Lib.hid hd4; have HB4 := Lib.hid hb04; have HX4 := Lib.hid hX4
  clear hq hp4 hd4 hb4 hb04 hX4 et HP3 HX3
  have hY := Blk.new w4 [Value.string ⟨#[]⟩, .string ⟨#[]⟩, .slice none 0 0] 25
  have hbY := HB4.out.alloc HB4.out.size (.cells #[Value.string ⟨#[]⟩, .string ⟨#[]⟩, .slice none 0 0] 25)
  have hXY := HX4.out.alloc (.cells #[Value.string ⟨#[]⟩, .string ⟨#[]⟩, .slice none 0 0] 25)
  have hb4Y : Below w4.heap.size w4 (w4.alloc (.cells #[Value.string ⟨#[]⟩, .string ⟨#[]⟩, .slice none 0 0] 25)) := (Below.refl _ _).alloc (Nat.le_refl _) _
  have HY := Lib.hid hY; have HBY := Lib.hid hbY; have HXY := Lib.hid hXY; have HB4Y := Lib.hid hb4Y; clear hY hbY hXY hb4Y
  simp only [Pk.cells]
  go_wp2_with (refine stop_store (ty := 25) rfl ?_)
  refine ⟨wpList_store_blk rfl rfl HY.out (by rfl) (vs := [Value.string qf, .string qt, .slice qo qn qc]) (by rfl) row25 rfl (by simp [Value.oneCell']) ?_⟩
  intro W5 hY5 hg5
  have hne : ¬ w4.heap.size = w.heap.size := fun e => by have := HX4.out.lt; omega
  have hX5 := HXY.out.grown hg5 (fun e => hne (by simpa using e))
  have hb5 := HBY.out.grown hg5 HBY.out.size (fun k hk => by cases hk; exact HB4.out.size)
  have hb45 : Below w4.heap.size w4 W5 := HB4Y.out.grown hg5 HB4Y.out.size (fun k hk => by cases hk; exact Nat.le_refl _)
  have hp5 := HP4.out.below hb45
  have hq5 := HQ.out.below hb45
  have d0 : W5.cell? ⟨w4.heap.size, 0, none⟩ = some (.string qf) := hY5.at' 0 (by simp)
  have d1 : W5.cell? ⟨w4.heap.size, 1, none⟩ = some (.string qt) := hY5.at' 1 (by simp)
  have d2 : W5.cell? ⟨w4.heap.size, 2, none⟩ = some (.slice qo qn qc) := hY5.at' 2 (by simp)
  have c0 : W5.cell? ⟨w.heap.size, 0, none⟩ = some (.string qf) := hX5.at' 0 (by simp)
  have c1 : W5.cell? ⟨w.heap.size, 1, none⟩ = some (.string qt) := hX5.at' 1 (by simp)
  have c2 : W5.cell? ⟨w.heap.size, 2, none⟩ = some (.slice po pn pc) := hX5.at' 2 (by simp)
  have b0 : w.heap.size < W5.heap.size := hX5.lt
  have b1 : w4.heap.size < W5.heap.size := hY5.lt
  have HP5 := Lib.hid hp5; have HB5 := Lib.hid hb5; have HQ5 := Lib.hid hq5
  clear hY5 hg5 hb5 hp5 hq5 hb45 HY HBY HXY HB4Y HX4 hX5 HP4 HQ HB4 hne
  have hA : Below W5.heap.size W5 (W5.alloc (.cells #[Value.string qf, .string qt, .slice qo qn qc] 25)) := (Below.refl _ _).alloc (Nat.le_refl _) _
  have hZ1 := Blk.new W5 [Value.string qf, .string qt, .slice qo qn qc] 25
  have hA2 := hA.alloc hA.size (.cells #[Value.string qf, .string qt, .slice po pn pc] 25)
  have hZ2 := Blk.new (W5.alloc (.cells #[Value.string qf, .string qt, .slice qo qn qc] 25)) [Value.string qf, .string qt, .slice po pn pc] 25
  have hZ1' := hZ1.alloc (.cells #[Value.string qf, .string qt, .slice po pn pc] 25)
  have hs1 : Pks ((W5.alloc (.cells #[Value.string qf, .string qt, .slice qo qn qc] 25)).alloc (.cells #[Value.string qf, .string qt, .slice po pn pc] 25)) (some ⟨W5.heap.size, 0, none⟩) 1 1 [⟨qf, qt, qo, qn, qc, qb⟩] :=
    ⟨⟨rfl, by simpa [Pk.cells] using hZ1'.cells⟩, Nat.le_refl _, by simp [maxLen], fun q hq => by obtain rfl : q = _ := (by simpa using hq); exact HQ5.out.below hA2⟩
  have hs2 : Pks ((W5.alloc (.cells #[Value.string qf, .string qt, .slice qo qn qc] 25)).alloc (.cells #[Value.string qf, .string qt, .slice po pn pc] 25)) (some ⟨W5.heap.size + 1, 0, none⟩) 1 1 [⟨qf, qt, po, pn, pc, qb⟩] :=
    ⟨⟨rfl, by simpa [Pk.cells] using hZ2.cells⟩, Nat.le_refl _, by simp [maxLen], fun q hq => by obtain rfl : q = _ := (by simpa using hq); exact (HP.out.below HB5.out).below hA2⟩
  have hb6 := below_step HB5.out hA2
  have hp6 := HP5.out.below hA2
  have HS1 := Lib.hid hs1; have HS2 := Lib.hid hs2; have HB6 := Lib.hid hb6; have HP6 := Lib.hid hp6
  clear hA hZ1 hA2 hZ2 hZ1' hs1 hs2 hb6 hp6
  go_wp2_with fail
  refine (same9 [⟨qf, qt, qo, qn, qc, qb⟩] [⟨qf, qt, po, pn, pc, qb⟩] _ _ _ 1 1 1 1 HS1.out HS2.out).mono ?_
  rintro r w7 ⟨rfl, hb7⟩
  rw [show sameB [(⟨qf, qt, qo, qn, qc, qb⟩ : Pk)] [⟨qf, qt, po, pn, pc, qb⟩] = true from by simp [sameB, Pk.dat]]
  have hb07 := below_step HB6.out hb7
  have hp7 := HP6.out.below hb7
  have HB7 := Lib.hid hb07; have HP7 := Lib.hid hp7
  clear hb7 hb07 hp7 d0 d1 d2 c0 c1 c2 HS1 HS2 HB6 HP6 HB5 HP5
  go_wp2_with fail
  refine (same9 l4 l w7 _ _ _ _ _ _ HP7.out (H.out.below HB7.out)).mono ?_
  rintro r w8 ⟨rfl, hb8⟩
  rw [show sameB l4 l = true from by unfold sameB; rw [HD4.out]; simp]
  have hb08 := below_step HB7.out hb8
  have HB8 := Lib.hid hb08
  clear hb8 hb08
  obtain ⟨hcb, hcl, hce⟩ := changeD_back (l.map Pk.dat) i m z
  go_wp2_with fail
  refine (change10 l i m z w8 oa _ c (H.out.below HB8.out) HPL.out).mono ?_
  rintro r wa ⟨oa1, na, ca, la, rfl, hpa, hda, hba⟩
  have hb0a := below_step HB8.out hba
  obtain ⟨⟨D1, e1⟩, hDE⟩ : ∃ X, changeD (l.map Pk.dat) i m z = X := ⟨_, rfl⟩
  rw [hDE] at hda hcb hcl hce ⊢
  simp only at hda hcb hcl hce ⊢
  have HPA := Lib.hid hpa; have HDA := Lib.hid hda; have HBA := Lib.hid hb0a; have HCB := Lib.hid hcb; have HCL := Lib.hid hcl; have HCE := Lib.hid hce; have HDE := Lib.hid hDE
  clear hpa hda hba hb0a hcb hcl hce hDE
  have hla : la.length ≤ 1000 := by have := congrArg List.length HDA.out; have h2 := HCL.out; simp at this h2; have := HPL.out; omega
  have HLA := Lib.hid hla; clear hla
  go_wp2_with fail
  refine (change10 la i m z wa oa1 na ca HPA.out HLA.out).mono ?_
  rintro r wb ⟨ob, nb, cb, lb, rfl, hpb, hdb, hbb⟩
  rw [HDA.out, HCB.out] at hdb ⊢
  simp only at hdb ⊢
  have hb0b := below_step HBA.out hbb
  have hpa := HPA.out.below hbb
  have HPB := Lib.hid hpb; have HPA2 := Lib.hid hpa; have HDB := Lib.hid hdb; have HBB := Lib.hid hb0b
  clear hpb hdb hbb hb0b hpa HPA HBA
  go_wp2_with fail
  refine (same9 lb l wb ob oa nb _ cb c HPB.out (H.out.below HBB.out)).mono ?_
  rintro r wc ⟨rfl, hbc⟩
  rw [show sameB lb l = true from by unfold sameB; rw [HDB.out]; simp]
  have hb0c := below_step HBB.out hbc
  have hpa := HPA2.out.below hbc
  have HPA3 := Lib.hid hpa; have HBC := Lib.hid hb0c
  clear hbc hb0c hpa HPA2 HBB
  have hce := HCE.out
  rcases hce with h2 | ⟨h0, hz | hd⟩
  · subst h2
    go_wp2
    refine bodyPost_ret (v := .bool true) (by simp [results, Try.results3, go_sem]) rfl ⟨rfl, HBC.out⟩
  · subst h0; subst hz
    go_wp2
    refine bodyPost_ret (v := .bool true) (by simp [results, Try.results3, go_sem]) rfl ⟨rfl, HBC.out⟩
  · subst h0
    have HD := Lib.hid hd; clear hd
    by_cases hz : (z.toNat : Int) = 0
    · go_wp2
      refine bodyPost_ret (v := .bool true) (by simp [results, Try.results3, go_sem]) rfl ⟨rfl, HBC.out⟩
    · go_wp2_with fail
      refine (same9 la l wc oa1 oa na _ ca c HPA3.out (H.out.below HBC.out)).mono ?_
      rintro r wd ⟨rfl, hbd⟩
      rw [show sameB la l = false from by unfold sameB; rw [HDA.out]; exact decide_eq_false HD.out]
      have hb0d := below_step HBC.out hbd
      have HBD := Lib.hid hb0d
      clear hbd hb0d
      go_wp2
      refine bodyPost_ret (v := .bool true) (by simp [results, Try.results3, go_sem]) rfl ⟨rfl, HBD.out⟩
end Go.Proofs.Ythnfbbnpjfjaiaa
