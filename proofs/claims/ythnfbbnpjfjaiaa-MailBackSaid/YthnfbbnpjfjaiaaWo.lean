/-
  Walk: the chapter's example.
-/
import Derived.Test.YthnfbbnpjfjaiaaWm
import Derived.Test.YthnfbbnpjfjaiaaWn
namespace Go.Proofs.Ythnfbbnpjfjaiaa
open Go.RowKit
set_option maxHeartbeats 1000000
set_option maxRecDepth 20000
set_option linter.unusedVariables false
set_option linter.unusedSimpArgs false

theorem Pks.nil (w : World) : Pks w none 0 0 [] := ⟨RowsOf.nil _ _, Nat.le_refl _, Nat.zero_le _, by simp⟩

theorem works5 (w : World) : Calls Try.prog 5 #[] w fun r w' => r = .returned (.bool true) ∧ Below w.heap.size w w' := by
  have hal : Below w.heap.size w (w.alloc (.cells #[Value.int .u8 1] 5)) := (Below.refl _ _).alloc (Nat.le_refl _) _
  have hB := Blk.new w [Value.int .u8 1] 5
  have hP : Pk.Ok (w.alloc (.cells #[Value.int .u8 1] 5)) ⟨⟨#[]⟩, ⟨#[97]⟩, some ⟨w.heap.size, 0, none⟩, 1, 1, [1]⟩ := ⟨⟨rfl, hB.cells⟩, Nat.le_refl _, by simp [maxLen], by simp [reachBytes]⟩
  have HAL := Lib.hid hal; have HP := Lib.hid hP; clear hal hB hP
  go_enter Try.func5, Try.ntmps5
  go_wp2_with fail
  refine (send7 [] ⟨⟨#[]⟩, ⟨#[97]⟩, some ⟨w.heap.size, 0, none⟩, 1, 1, [1]⟩ _ none 0 0 (Pks.nil _) (by simp) HP.out).mono ?_
  rintro r w1 ⟨o1, n1, c1, l1, rfl, hp1, hd1, hb1⟩
  have hbb1 := below_step HAL.out hb1
  have HP1 := Lib.hid hp1; have HD1 : Hid (l1.map Pk.dat = [(⟨#[]⟩, ⟨#[97]⟩, [1])]) := hd1
  have HB1 := Lib.hid hbb1; clear hp1 hd1 hb1 hbb1 HP
  rw [show (sendD (List.map Pk.dat []) (Pk.dat ⟨⟨#[]⟩, ⟨#[97]⟩, some ⟨w.heap.size, 0, none⟩, 1, 1, [1]⟩)).2 = 0 from by simp [sendD, Pk.dat]]
  have hl1 : l1.length = 1 := by have := congrArg List.length HD1.out; simpa using this
  have HL1 := Lib.hid hl1; clear hl1
  go_wp2_with fail
  refine (send7 l1 ⟨⟨#[]⟩, ⟨#[98]⟩, none, 0, 0, []⟩ w1 o1 n1 c1 HP1.out (by rw [HL1.out]; omega) ⟨⟨rfl, Cells.nil _ _⟩, Nat.le_refl _, by simp, by simp⟩).mono ?_
  rintro r w2 ⟨o2, n2, c2, l2, rfl, hp2, hd2, hb2⟩
  have hbb2 := below_step HB1.out hb2
  have e2 : sendD (l1.map Pk.dat) (Pk.dat ⟨⟨#[]⟩, ⟨#[98]⟩, none, 0, 0, []⟩) = ([(⟨#[]⟩, ⟨#[97]⟩, [1]), (⟨#[]⟩, ⟨#[98]⟩, [])], 0) := by rw [HD1.out]; simp [sendD, Pk.dat]
  rw [e2] at hd2 ⊢
  have HP2 := Lib.hid hp2; have HD2 := Lib.hid hd2
  have HB2 := Lib.hid hbb2; clear hp2 hd2 hb2 hbb2 e2
  have hl2 : l2.length = 2 := by have := congrArg List.length HD2.out; simpa using this
  have HL2 := Lib.hid hl2; clear hl2
  simp only
  go_wp2_with fail
  refine (take8 l2 0 w2 o2 n2 c2 HP2.out (by rw [HL2.out]; omega)).mono ?_
  rintro r w3 ⟨q, o3, n3, c3, l3, rfl, hq, hqd, hp3, hd3, hb3⟩
  have hbb3 := below_step HB2.out hb3
  have e3 : takeD (l2.map Pk.dat) 0 = ((⟨#[]⟩, ⟨#[97]⟩, [1]), [(⟨#[]⟩, ⟨#[98]⟩, [])], 0) := by rw [HD2.out]; simp [takeD]
  rw [e3] at hd3 hqd ⊢
  obtain ⟨qf, qt, qo, qn, qc, qb⟩ := q
  simp only [Pk.dat, Prod.mk.injEq] at hqd
  obtain ⟨rfl, rfl, rfl⟩ := hqd
  have hl3 : l3.length = 1 := by have := congrArg List.length hd3; simpa using this
  obtain ⟨q3, rfl⟩ : ∃ q3, l3 = [q3] := by
    match l3, hl3 with
    | [q], _ => exact ⟨q, rfl⟩
  obtain ⟨rf, rt, ro, rn, rc, rb⟩ := q3
  simp only [Pk.dat, List.map_cons, List.map_nil, List.cons.injEq, Prod.mk.injEq, and_true] at hd3
  obtain ⟨rfl, rfl, rfl⟩ := hd3
  obtain rfl : n3 = 1 := hp3.rows.len
  have HP3 := Lib.hid hp3
  have HB3 := Lib.hid hbb3; clear hp3 hb3 hbb3 e3 hl3
  have hX := Blk.new w3 [Value.string ⟨#[]⟩, .string ⟨#[]⟩, .slice none 0 0] 25
  have hbX := HB3.out.alloc HB3.out.size (.cells #[Value.string ⟨#[]⟩, .string ⟨#[]⟩, .slice none 0 0] 25)
  have HX := Lib.hid hX; have HBX := Lib.hid hbX; clear hX hbX
  simp only [Pk.cells]
  go_wp2_with (refine stop_store (ty := 25) rfl ?_)
  refine ⟨wpList_store_blk rfl rfl HX.out (by rfl) (vs := [Value.string ⟨#[]⟩, .string ⟨#[97]⟩, .slice qo qn qc]) (by rfl) row25 rfl (by simp [Value.oneCell']) ?_⟩
  intro W5 hY5 hg5
  have hb5 := HBX.out.grown hg5 HBX.out.size (fun k hk => by cases hk; exact HB3.out.size)
  have c1 : W5.cell? ⟨w3.heap.size, 1, none⟩ = some (.string ⟨#[97]⟩) := hY5.at' 1 (by simp)
  have hp5 : Pks W5 o3 1 c3 [⟨⟨#[]⟩, ⟨#[98]⟩, ro, rn, rc, []⟩] := HP3.out.below (Below.grownB ((Below.refl w3.heap.size w3).alloc (Nat.le_refl _) _) hg5 (Nat.le_refl _) (by simp))
  obtain ⟨b4, p4, rfl, hb4, -, f11, -⟩ := hp5.rows.pk (i := 0) (by simp)
  simp only [Nat.zero_mul, Nat.add_zero, List.getElem_cons_zero] at f11
  have HP5 := Lib.hid hp5; have HB5 := Lib.hid hb5
  have q1 : ((⟨#[97]⟩ : ByteArray).toList == (⟨#[97]⟩ : ByteArray).toList) = true := by simp
  clear hY5 hg5 hb5 hp5
  go_wp2_with fail
  refine (for17 [⟨⟨#[]⟩, ⟨#[98]⟩, ro, rn, rc, []⟩] ⟨#[98]⟩ _ _ 1 c3 HP5.out).mono ?_
  rintro r w6 ⟨rfl, hb6⟩
  rw [show forD (List.map Pk.to [(⟨⟨#[]⟩, ⟨#[98]⟩, ro, rn, rc, []⟩ : Pk)]) ⟨#[98]⟩ 0 = 0 from by simp [forD]]
  have hbb6 := below_step HB5.out hb6
  have hp6 := HP5.out.below hb6
  have HB6 := Lib.hid hbb6; have HP6 := Lib.hid hp6; clear hb6 hbb6 hp6
  go_wp2_with fail
  refine (for17 [⟨⟨#[]⟩, ⟨#[98]⟩, ro, rn, rc, []⟩] ⟨#[97]⟩ _ _ 1 c3 HP6.out).mono ?_
  rintro r w7 ⟨rfl, hb7⟩
  rw [show forD (List.map Pk.to [(⟨⟨#[]⟩, ⟨#[98]⟩, ro, rn, rc, []⟩ : Pk)]) ⟨#[97]⟩ 0 = -1 from by simp [forD]]
  have hbb7 := below_step HB6.out hb7
  have HB7 := Lib.hid hbb7; clear hb7 hbb7
  go_wp2
  refine bodyPost_ret (v := .bool true) (by simp [results, Try.results5, go_sem]) rfl ⟨rfl, HB7.out⟩
end Go.Proofs.Ythnfbbnpjfjaiaa
