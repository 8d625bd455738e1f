/-
  Walk: the chapter's example.
-/
import Derived.Test.YthobmcpilfalgaaWi
namespace Go.Proofs.Ythobmcpilfalgaa
open Go.RowKit Go.Proofs.Ythobmcpilfalgaa.Plan Go.Proofs.Ythobmcpilfalgaa.Eager
set_option maxHeartbeats 4000000
set_option maxRecDepth 20000
set_option linter.unusedVariables false
set_option linter.unusedSimpArgs false

theorem el49 : Elem Try.prog 49 5 1 1 := Elem.of (.int .u8 0) rfl (by kernel_rfl) rfl (by omega)
def eight : List UInt8 := [0, 0, 0, 0, 0, 0, 0, 1]
theorem eight_take {k : Nat} (h : k < 8) : eight.take (k + 1) = eight.take k ++ [eight.getD k 0] := by
  rcases (by omega : k = 0 ∨ k = 1 ∨ k = 2 ∨ k = 3 ∨ k = 4 ∨ k = 5 ∨ k = 6 ∨ k = 7) with rfl | rfl | rfl | rfl | rfl | rfl | rfl | rfl <;> rfl
def NumOk (base n : Nat) (xs : List Value) (w : World) (e : Ending) (w' : World) : Prop :=
  ∃ v', e = .returned v' ∧ Own w' base 5 1 v' (n + 8) (xs ++ eight.map By) ∧ Below base w w'
theorem num32 (w : World) (base n : Nat) (v : Value) (xs : List Value) (h : Own w base 5 1 v n xs) (hb : base ≤ w.heap.size) (hn : n ≤ 100) :
    Calls Try.prog 32 #[v, .int .u64 1, .int .i64 8] w (NumOk base n xs w) := by
  have H := Lib.hid h; have HB := Lib.hid hb; have HN := Lib.hid hn; clear h hb hn
  go_enter Try.func32, Try.ntmps32
  go_wp2
  go_loopw [0, 7, 16] (fun v _ u wr => ∃ k : Nat, k ≤ 8 ∧ u = .int .i64 k ∧ Hid (Own wr base 5 1 v (n + k) (xs ++ (eight.take k).map By)) ∧ Hid (Below base w wr)) (fun _ _ u _ => 8 - (intOf u).toNat)
  case atStart => exact ⟨0, by omega, rfl, Lib.hid (by simpa using H.out), Lib.hid (Below.refl _ _)⟩
  case round =>
    obtain ⟨k, hk, rfl, hO, hbel⟩ := hrel
    by_cases hlt : k < 8
    · have hsz : Hid (base ≤ wr.heap.size) := Nat.le_trans HB.out hbel.out.size
      obtain ⟨x, hx⟩ : ∃ x, x = eight.getD k 0 := ⟨_, rfl⟩
      have HT : Hid (eight.take (k + 1) = eight.take k ++ [x]) := by
        show _ = _
        rw [eight_take hlt, hx]
      have hN3 : Blk (wr.alloc (.cells [By x].toArray 5)) wr.heap.size [By x] := Blk.new' rfl
      have hal2 : Below wr.heap.size wr (wr.alloc (.cells [By x].toArray 5)) := (Below.refl _ _).alloc (Nat.le_refl _) _
      have hO3 := hO.out.later hal2
      have hB3 : Below base w (wr.alloc (.cells [By x].toArray 5)) := hbel.out.alloc hsz.out _
      have HN3 := Lib.hid hN3; have HO3 := Lib.hid hO3; have HB3 := Lib.hid hB3
      have HS3 : Hid (base ≤ (wr.alloc (.cells [By x].toArray 5)).heap.size) := Nat.le_trans hsz.out hal2.size
      have HX := Lib.hid hx
      clear hN3 hal2 hO3 hB3 hO hbel hx hsz
      rcases (by omega : k = 0 ∨ k = 1 ∨ k = 2 ∨ k = 3 ∨ k = 4 ∨ k = 5 ∨ k = 6 ∨ k = 7) with rfl | rfl | rfl | rfl | rfl | rfl | rfl | rfl
      all_goals
        have hx := HX.out
        simp only [eight, List.getD_cons_zero, List.getD_cons_succ] at hx
        subst hx
        clear HX
        go_wp2_with (refine stop_append rfl ?_)
        have hlen := HN.out
        refine ⟨wpList_app el49 rfl (by rfl) (by rfl) HO3.out (by rfl) (m := 1) rfl HN3.out.cells (by simp [By, Value.oneCell']) (by simp [maxLen]; omega) (by omega) HS3.out ?_⟩
        intro v4 W4 hO4 hg4
        have hb4 := HO3.out.below hg4 HB3.out (Nat.le_refl _) HS3.out
        have HO4 := Lib.hid hO4; have HB4 := Lib.hid hb4
        clear hO4 hg4 hb4 hlen HO3 HN3 HB3 HS3
        go_wp2
        go_roundw
        case measure => (simp [intOf]) <;> omega
        case rel => exact ⟨_ + 1, by omega, rfl, Lib.hid (by rw [HT.out]; simpa using HO4.out), HB4⟩
    · obtain rfl : k = 8 := by omega
      have hO2 : Own wr base 5 1 u0 (n + 8) (xs ++ eight.map By) := hO.out
      have HO2 := Lib.hid hO2
      clear hO hO2
      go_wp2
      refine bodyPost_ret (v := u0) (by simp [results, Try.results32, go_sem]) rfl ⟨_, rfl, HO2.out, hbel.out⟩

def nine : List UInt8 := [4, 0, 0, 0, 0, 0, 0, 0, 1]
def ResetOk (w : World) (e : Ending) (w' : World) : Prop :=
  ∃ oa c, e = .returned (.slice oa 9 c) ∧ Reads w' oa 9 nine ∧ 9 ≤ c ∧ c ≤ maxLen ∧ Below w.heap.size w w'
theorem putReset25 (w : World) : Calls Try.prog 25 #[.int .u64 1] w (ResetOk w) := by
  have hO : Own (w.alloc (.cells [By 4].toArray 5)) w.heap.size 5 1 (.slice (some ⟨w.heap.size, 0, none⟩) 1 1) 1 [By 4] := Own.lit w [By 4] 5 1 1 (by simp [maxLen]) rfl _ (Nat.le_refl _)
  have hal : Below w.heap.size w (w.alloc (.cells [By 4].toArray 5)) := (Below.refl _ _).alloc (Nat.le_refl _) _
  have HO := Lib.hid hO; have HB := Lib.hid hal; clear hO hal
  go_enter Try.func25, Try.ntmps25
  go_wp2_with fail
  refine (num32 _ w.heap.size 1 _ _ HO.out HB.out.size (by omega)).mono ?_
  rintro r w1 ⟨v, rfl, hO, hb⟩
  have hB1 : Below w.heap.size w w1 := HB.out.trans hb
  obtain ⟨oa, c, rfl, h1, h2, h3, -⟩ := hO.cells
  have HR : Hid (Reads w1 oa 9 nine) := ⟨rfl, h3⟩
  have H1 := Lib.hid h1; have H2 := Lib.hid h2
  have HB1 := Lib.hid hB1
  clear h1 h2 h3 hO hb hB1 HO HB
  go_wp2
  refine bodyPost_ret (v := .slice oa 9 c) (by simp [results, Try.results25, go_sem]) rfl ⟨oa, c, rfl, HR.out, H1.out, H2.out, HB1.out⟩

def sa : ByteArray := ⟨#[97]⟩
def sb : ByteArray := ⟨#[98]⟩
def pa (oa : Option Addr) (c : Nat) : Pk := ⟨sa, ⟨#[]⟩, oa, 9, c, nine⟩
def pb : Pk := ⟨sb, ⟨#[]⟩, none, 0, 0, []⟩
theorem w0 : wrap64 0 = 0 := by unfold wrap64; decide
theorem w1' : wrap64 1 = 1 := by unfold wrap64; decide
theorem w9 : wrap64 9 = 9 := by unfold wrap64; decide
theorem w2' : wrap64 2 = 2 := by unfold wrap64; decide
theorem ex_tally (oa : Option Addr) (c : Nat) : tallyOf [pa oa c, pb] = ⟨0, 0, 0, 1, 1, 9⟩ := by
  simp [tallyOf, addT, oneT, kindT, kindOf, t0, pa, pb, nine, w0, w1', w9]
theorem ex_names (oa : Option Addr) (c : Nat) : namesOf [pa oa c, pb] = [sa, sb] := by
  have h : ¬ sb = sa := by decide
  simp [namesOf, firsts, frms, pa, pb, addKey, h]
theorem ex_prs (oa : Option Addr) (c : Nat) : (firsts (prs [pa oa c, pb])).length = 2 := by
  have h : ¬ sb = sa := by decide
  simp [firsts, prs, pa, pb, addKey, h]
theorem ex_bus (oa : Option Addr) (c : Nat) : busTo [pa oa c, pb] [sa, sb] = (sa, 9) := by
  have h : ¬ sb = sa := by decide
  have h' : ¬ sa = sb := by decide
  have e1 : bytesOf [pa oa c, pb] sa = 9 := by simp [bytesOf, fromL, pa, pb, h, tallyOf, addT, oneT, kindT, kindOf, t0, nine, w9]
  have e2 : bytesOf [pa oa c, pb] sb = 0 := by simp [bytesOf, fromL, pa, pb, h', tallyOf, addT, oneT, kindT, kindOf, t0, nine, w0]
  simp [busTo, busStep, e1, e2]
theorem ex_pack : packT ⟨0, 0, 0, 1, 1, 9⟩ = 2 := by simp [packT, w0, w1', w2']

theorem works7 (w : World) : Calls Try.prog 7 #[] w fun r w' => r = .returned (.bool true) ∧ Below w.heap.size w w' := by
  go_enter Try.func7, Try.ntmps7
  go_wp2_with fail
  refine (putReset25 w).mono ?_
  rintro r w1 ⟨oa, c, rfl, hr, h1, h2, hb⟩
  have hal : Below w1.heap.size w1 (w1.alloc (.cells ((pa oa c).cells ++ pb.cells).toArray 51)) := (Below.refl _ _).alloc (Nat.le_refl _) _
  have hP : Pks (w1.alloc (.cells ((pa oa c).cells ++ pb.cells).toArray 51)) (some ⟨w1.heap.size, 0, none⟩) 2 2 [pa oa c, pb] := by
    have hR := Rws.two (f := Pk.cells) (x := pa oa c) (y := pb) (w := w1.alloc (.cells ((pa oa c).cells ++ pb.cells).toArray 51)) (g := w1.heap.size) (Blk.new' rfl)
    refine ⟨hR.rows, hR.le, hR.cap, ?_⟩
    intro p hp
    rcases List.mem_cons.1 hp with rfl | hp
    · exact ⟨hr.below hal, h1, h2, by simp [pa, reachBytes]⟩
    · obtain rfl : p = pb := by simpa using hp
      exact ⟨⟨rfl, Cells.nil _ _⟩, Nat.le_refl _, by simp [pb, maxLen], by simp [pb]⟩
  have HP := Lib.hid hP; have HB := Lib.hid (below_step hb hal)
  clear hP hal hr h1 h2 hb
  go_wp2_with fail
  refine (busiest8 [pa oa c, pb] _ _ _ _ HP.out (by simp)).mono ?_
  rintro r w2 ⟨hbo, hb⟩
  unfold BusOk at hbo
  rw [ex_names, ex_bus] at hbo
  subst hbo
  replace HP := Lib.hid (HP.out.below hb); replace HB := Lib.hid (below_step HB.out hb)
  clear hb
  have hmx : max (9 : Int) 0 = 9 := by omega
  simp only [hmx]
  clear hmx
  go_wp2_with fail
  refine (of11 [pa oa c, pb] _ _ _ _ HP.out (by simp)).mono ?_
  rintro r w3 ⟨rfl, hb⟩
  rw [ex_tally]
  replace HP := Lib.hid (HP.out.below hb); replace HB := Lib.hid (below_step HB.out hb)
  clear hb
  simp only [Tal.cells]
  go_wp2_with fail
  refine (of11 [pa oa c, pb] _ _ _ _ HP.out (by simp)).mono ?_
  rintro r w4 ⟨rfl, hb⟩
  rw [ex_tally]
  replace HP := Lib.hid (HP.out.below hb); replace HB := Lib.hid (below_step HB.out hb)
  clear hb
  go_wp2_with fail
  refine (packets21 ⟨0, 0, 0, 1, 1, 9⟩ _).mono ?_
  rintro r w5 ⟨rfl, hb⟩
  rw [ex_pack]
  replace HP := Lib.hid (HP.out.below hb); replace HB := Lib.hid (below_step HB.out hb)
  clear hb
  have q1 : (sa.toList == [97]) = true := by unfold sa; simp
  go_wp2_with fail
  refine (pairs10 [pa oa c, pb] _ _ _ _ HP.out (by simp)).mono ?_
  rintro r w6 ⟨⟨o6, c6, rfl, -⟩, hb⟩
  rw [ex_prs]
  replace HB := Lib.hid (below_step HB.out hb)
  clear hb HP q1
  go_wp2_with fail
  refine (share23 ⟨0, 0, 0, 0, 0, 1⟩ ⟨0, 0, 0, 0, 0, 3⟩ _).mono ?_
  rintro r w7 ⟨rfl, hb⟩
  have hs : shareT ⟨0, 0, 0, 0, 0, 1⟩ ⟨0, 0, 0, 0, 0, 3⟩ = 33 := by decide
  rw [hs]
  replace HB := Lib.hid (below_step HB.out hb)
  clear hb hs
  go_wp2
  refine bodyPost_ret (v := .bool true) (by simp [results, Try.results7, go_sem]) rfl ⟨rfl, HB.out⟩
end Go.Proofs.Ythobmcpilfalgaa
