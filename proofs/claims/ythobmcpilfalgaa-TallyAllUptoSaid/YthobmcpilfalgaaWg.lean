/-
  Walks: who sends most.
-/
import Derived.Test.YthobmcpilfalgaaWf
namespace Go.Proofs.Ythobmcpilfalgaa
open Go.RowKit Go.Proofs.Ythobmcpilfalgaa.Plan Go.Proofs.Ythobmcpilfalgaa.Eager
set_option maxHeartbeats 2000000
set_option maxRecDepth 20000
set_option linter.unusedVariables false
set_option linter.unusedSimpArgs false

def bytesOf (l : List Pk) (x : ByteArray) : Int := (tallyOf (fromL l x)).b
def busStep (l : List Pk) (s : ByteArray × Int) (x : ByteArray) : ByteArray × Int := if s.2 < bytesOf l x then (x, bytesOf l x) else s
def busTo (l : List Pk) (xs : List ByteArray) : ByteArray × Int := xs.foldl (busStep l) (⟨#[]⟩, -1)
def busFrom (l : List Pk) (x : ByteArray) (xs : List ByteArray) : ByteArray × Int := xs.foldl (busStep l) (x, bytesOf l x)

theorem tally_nat : ∀ (l : List Pk) (t : Tal) (m : Nat), t.b = (m : Int) → (∀ p ∈ l, p.n ≤ reachBytes) → m + l.length * reachBytes < 9223372036854775808 → ∃ k : Nat, (l.foldl (fun t p => addT t (oneT p)) t).b = (k : Int) ∧ k ≤ m + l.length * reachBytes
  | [], t, m, h, _, _ => ⟨m, h, by simp⟩
  | p :: l, t, m, h, hs, hm => by
    have hp := hs p (by simp)
    have e : (p :: l).length * reachBytes = l.length * reachBytes + reachBytes := by rw [List.length_cons, Nat.succ_mul]
    rw [e] at hm
    have h1 : (addT t (oneT p)).b = ((m + p.n : Nat) : Int) := by
      show wrap64 (t.b + (p.n : Int)) = _
      rw [h, IntWalk.wrap64_in _ (by omega)]; omega
    obtain ⟨k, hk, hle⟩ := tally_nat l (addT t (oneT p)) (m + p.n) h1 (fun q hq => hs q (by simp [hq])) (by omega)
    refine ⟨k, by rw [List.foldl_cons]; exact hk, ?_⟩
    rw [e]; omega
theorem bytes_nonneg (l : List Pk) (x : ByteArray) (hl : l.length ≤ 900) (hs : ∀ p ∈ l, p.n ≤ reachBytes) : 0 ≤ bytesOf l x := by
  have hf : (fromL l x).length ≤ l.length := List.length_filter_le _ _
  have hr : (fromL l x).length * reachBytes ≤ 900 * reachBytes := Nat.mul_le_mul_right _ (by omega)
  obtain ⟨k, hk, -⟩ := tally_nat (fromL l x) t0 0 rfl (fun p hp => hs p (List.mem_filter.1 hp).1) (by simp [reachBytes] at hr ⊢; omega)
  unfold bytesOf tallyOf; rw [hk]; omega
theorem busFrom_snd (l : List Pk) : ∀ (xs : List ByteArray) (s : ByteArray × Int), s.2 = bytesOf l s.1 → (xs.foldl (busStep l) s).2 = bytesOf l (xs.foldl (busStep l) s).1
  | [], s, h => h
  | x :: xs, s, h => by
    rw [List.foldl_cons]
    apply busFrom_snd l xs
    unfold busStep; split
    · rfl
    · exact h
theorem bus_same (l : List Pk) (x : ByteArray) (xs : List ByteArray) (h : 0 ≤ bytesOf l x) : busFrom l x (x :: xs) = busTo l (x :: xs) := by
  unfold busFrom busTo
  rw [List.foldl_cons, List.foldl_cons]
  have e1 : busStep l (x, bytesOf l x) x = (x, bytesOf l x) := by unfold busStep; rw [if_neg (by simp)]
  have e2 : busStep l (⟨#[]⟩, -1) x = (x, bytesOf l x) := by unfold busStep; rw [if_pos (by simp only; omega)]
  rw [e1, e2]
theorem field33 (a b c d e f : Int) (w : World) : (Instr.field 33 (.agg #[.int .i64 a, .int .i64 b, .int .i64 c, .int .i64 d, .int .i64 e, .int .i64 f]) 5).run Try.prog w = .ok (.int .i64 f) w := by
  simp [Instr.field, go_sem, asAgg]
  try rfl
theorem field32 (a b c d e f : Int) (w : World) : (Instr.field 32 (.agg #[.int .i64 a, .int .i64 b, .int .i64 c, .int .i64 d, .int .i64 e, .int .i64 f]) 5).run Try.prog w = .ok (.int .i64 f) w := by
  simp [Instr.field, go_sem, asAgg]
  try rfl
def BusOk (l : List Pk) (e : Ending) : Prop := e = .returned (.tuple #[.string (busTo l (namesOf l)).1, .int .i64 (max (busTo l (namesOf l)).2 0)])

theorem busiest8 (l : List Pk) (w : World) (oa : Option Addr) (n c : Nat) (h : Pks w oa n c l) (hl : l.length ≤ 900) :
    Calls Try.prog 8 #[.slice oa n c] w fun r w' => BusOk l r ∧ Below w.heap.size w w' := by
  obtain rfl : n = l.length := h.rows.len
  have H := Lib.hid h; have HL := Lib.hid hl; clear h hl
  go_enter Try.func8, Try.ntmps8
  go_wp2_with fail
  refine (names16 l w oa _ c H.out (by have := HL.out; omega)).mono ?_
  rintro r w1 ⟨⟨o1, c1, rfl, hR⟩, hb⟩
  replace H := Lib.hid (H.out.below hb)
  have hnl := names_len l
  have HNL : Hid ((namesOf l).length ≤ 900) := by show _ ≤ _; have := HL.out; omega
  have HB := Lib.hid hb; have HR := Lib.hid hR
  have HBO : Hid (∀ e, e = Ending.returned (.tuple #[.string (busTo l (namesOf l)).1, .int .i64 (max (busTo l (namesOf l)).2 0)]) → BusOk l e) := fun _ h => h
  clear hb hR hnl
  obtain ⟨A, hA⟩ : ∃ A, namesOf l = A := ⟨_, rfl⟩
  rw [hA] at HNL HR HBO ⊢
  clear hA
  go_wp2_with fail
  go_loopw [4, 5, 7, 8, 12] (fun s v _ _ u wr => ∃ k : Nat, k ≤ A.length ∧ u = .int .i64 k ∧ s = .string (busTo l (A.take k)).1 ∧ v = .int .i64 (busTo l (A.take k)).2 ∧ Hid (Below w1.heap.size w1 wr)) (fun _ _ _ _ u _ => A.length - (intOf u).toNat)
  case atStart => exact ⟨0, by omega, rfl, rfl, rfl, Lib.hid (Below.refl _ _)⟩
  case round =>
    obtain ⟨k, hk, rfl, rfl, rfl, hbel⟩ := hrel
    by_cases hlt : k < A.length
    · have hi1 : (k : Int) < (A.length : Int) := by omega
      have rk : IntKind.i64.wrap ((k : Int) + 1) = ((k + 1 : Nat) : Int) := by
        have h1 := HNL.out
        rw [IntKind.wrap_i64]; omega
      have HT : Hid (busTo l (A.take (k + 1)) = busStep l (busTo l (A.take k)) A[k]) := by
        show _ = _
        unfold busTo; rw [List.take_succ_eq_append_getElem hlt, List.foldl_append]; rfl
      obtain ⟨b1, p1, rfl, hb1, e0⟩ := (HR.out.rows.below hbel.out).str hlt
      obtain ⟨x, hx⟩ : ∃ x, A[k] = x := ⟨_, rfl⟩
      rw [hx] at e0 HT
      clear hx
      obtain ⟨s, hs⟩ : ∃ s, busTo l (A.take k) = s := ⟨_, rfl⟩
      rw [hs] at HT ⊢
      clear hs
      obtain ⟨sn, sb⟩ := s
      go_wp2_with fail
      refine (from13 l x wr oa _ c (H.out.below hbel.out) HL.out).mono ?_
      rintro r w2 ⟨rfl, hb2⟩
      have HT2 : Hid (busTo l (A.take (k + 1)) = if sb < bytesOf l x then (x, bytesOf l x) else (sn, sb)) := HT.out
      have HBY : Hid ((tallyOf (l.filter fun p => decide (p.frm = x))).b = bytesOf l x) := rfl
      obtain ⟨t, ht⟩ : ∃ t, tallyOf (l.filter fun p => decide (p.frm = x)) = t := ⟨_, rfl⟩
      rw [ht] at HBY ⊢
      clear ht HT
      obtain ⟨th, tw, tr, ts, tO, tb⟩ := t
      simp only [Tal.cells]
      rw [← HBY.out] at HT2
      have HB3 := Lib.hid (below_step hbel.out hb2)
      have hfi := fun W => field33 th tw tr ts tO tb W
      clear hb2 hbel e0 HBY
      by_cases hbig : sb < tb
      · have HT3 : Hid (busTo l (A.take (k + 1)) = (x, tb)) := by show _ = _; rw [HT2.out, if_pos hbig]
        clear HT2
        go_wp2_with fail
        refine ⟨?_, ?_⟩
        · exact ⟨k + 1, by omega, rfl, by rw [HT3.out], by rw [HT3.out], HB3⟩
        · (simp [intOf]) <;> omega
      · have HT3 : Hid (busTo l (A.take (k + 1)) = (sn, sb)) := by show _ = _; rw [HT2.out, if_neg hbig]
        clear HT2
        go_wp2_with fail
        refine ⟨?_, ?_⟩
        · exact ⟨k + 1, by omega, rfl, by rw [HT3.out], by rw [HT3.out], HB3⟩
        · (simp [intOf]) <;> omega
    · obtain rfl : k = A.length := by omega
      rw [List.take_length]
      obtain ⟨s, hs⟩ : ∃ s, busTo l A = s := ⟨_, rfl⟩
      rw [hs] at HBO ⊢
      clear hs
      obtain ⟨sn, sb⟩ := s
      have HB3 := Lib.hid (below_step HB.out hbel.out)
      clear hbel
      by_cases h0 : 0 ≤ sb
      · have hm : max sb 0 = sb := by omega
        rw [hm] at HBO
        clear hm
        go_wp2
        all_goals (first | omega | refine bodyPost_ret (v := .tuple #[.string sn, .int .i64 sb]) (by simp [results, Try.results8, go_sem]) rfl ⟨HBO.out _ rfl, HB3.out⟩)
      · have hm : max sb 0 = 0 := by omega
        rw [hm] at HBO
        clear hm
        go_wp2
        all_goals (first | omega | refine bodyPost_ret (v := .tuple #[.string sn, .int .i64 0]) (by simp [results, Try.results8, go_sem]) rfl ⟨HBO.out _ rfl, HB3.out⟩)

theorem refBusiest9 (l : List Pk) (w : World) (oa : Option Addr) (n c : Nat) (h : Pks w oa n c l) (hl : l.length ≤ 900) :
    Calls Try.prog 9 #[.slice oa n c] w fun r w' => BusOk l r ∧ Below w.heap.size w w' := by
  obtain rfl : n = l.length := h.rows.len
  have HNN : Hid (∀ x, 0 ≤ bytesOf l x) := fun x => bytes_nonneg l x hl (fun p hp => (h.ok p hp).small)
  have H := Lib.hid h; have HL := Lib.hid hl; clear h hl
  go_enter Try.func9, Try.ntmps9
  go_wp2_with fail
  refine (refNames17 l w oa _ c H.out HL.out).mono ?_
  rintro r w1 ⟨⟨o1, c1, rfl, hR⟩, hb⟩
  replace H := Lib.hid (H.out.below hb)
  have hnl := names_len l
  have HNL : Hid ((namesOf l).length ≤ 900) := by show _ ≤ _; have := HL.out; omega
  have HB := Lib.hid hb; have HR := Lib.hid hR
  have HBO : Hid (∀ e, e = Ending.returned (.tuple #[.string (busTo l (namesOf l)).1, .int .i64 (max (busTo l (namesOf l)).2 0)]) → BusOk l e) := fun _ h => h
  clear hb hR hnl
  obtain ⟨A, hA⟩ : ∃ A, namesOf l = A := ⟨_, rfl⟩
  rw [hA] at HNL HR HBO ⊢
  clear hA
  cases A with
  | nil =>
    go_wp2
    refine bodyPost_ret (v := .tuple #[.string ⟨#[]⟩, .int .i64 0]) (by simp [results, Try.results9, go_sem]) rfl ⟨HBO.out _ rfl, HB.out⟩
  | cons x0 A =>
  rw [← bus_same l x0 A (HNN.out x0)] at HBO
  obtain ⟨B, hBB⟩ : ∃ B, x0 :: A = B := ⟨_, rfl⟩
  have hpos : 0 < B.length := by rw [← hBB]; simp
  have hx0 : B[0] = x0 := by simp [← hBB]
  rw [hBB] at HNL HR HBO ⊢
  clear hBB
  have hne : ((B.length : Int) == 0) = false := by rw [beq_eq_false_iff_ne]; omega
  have hp0 : (0 : Int) < (B.length : Int) := by omega
  obtain ⟨b1, p1, rfl, hb1, e0⟩ := HR.out.rows.str hpos
  rw [hx0] at e0
  simp only [Nat.add_zero] at e0
  clear hx0
  go_wp2_with fail
  clear e0
  go_loopw [5, 6] (fun s u wr => ∃ (k : Nat) (best : ByteArray), k ≤ B.length ∧ u = .int .i64 k ∧ s = .string best ∧ Hid (best = (busFrom l x0 (B.take k)).1) ∧ Hid (Below w1.heap.size w1 wr)) (fun _ u _ => B.length - (intOf u).toNat)
  case atStart => exact ⟨0, x0, by omega, rfl, rfl, Lib.hid rfl, Lib.hid (Below.refl _ _)⟩
  case round =>
    obtain ⟨k, best, hk, rfl, rfl, hbest, hbel⟩ := hrel
    rw [hbest.out]
    clear hbest
    have HSND : Hid ((busFrom l x0 (B.take k)).2 = bytesOf l (busFrom l x0 (B.take k)).1) := busFrom_snd l _ _ rfl
    by_cases hlt : k < B.length
    · have hi1 : (k : Int) < (B.length : Int) := by omega
      have rk : IntKind.i64.wrap ((k : Int) + 1) = ((k + 1 : Nat) : Int) := by
        have h1 := HNL.out
        rw [IntKind.wrap_i64]; omega
      have HT : Hid (busFrom l x0 (B.take (k + 1)) = busStep l (busFrom l x0 (B.take k)) B[k]) := by
        show _ = _
        unfold busFrom; rw [List.take_succ_eq_append_getElem hlt, List.foldl_append]; rfl
      obtain ⟨b2, p2, e2, hb2, e0⟩ := HR.out.rows.str hlt
      cases e2
      obtain ⟨x, hx⟩ : ∃ x, B[k] = x := ⟨_, rfl⟩
      rw [hx] at e0 HT
      have E0 := Lib.hid e0
      clear hx e0 hb2
      obtain ⟨s, hs⟩ : ∃ s, busFrom l x0 (B.take k) = s := ⟨_, rfl⟩
      rw [hs] at HT HSND ⊢
      clear hs
      obtain ⟨sn, sb⟩ := s
      replace e0 := (hbel.out.cell (p := ⟨b1, p1 + k, none⟩) hb1).trans E0.out
      have hbz := Nat.lt_of_lt_of_le hb1 hbel.out.size
      go_wp2_with fail
      refine (refFrom14 l x wr oa _ c (H.out.below hbel.out) HL.out).mono ?_
      rintro r w2 ⟨rfl, hb2⟩
      replace hbel := Lib.hid (below_step hbel.out hb2)
      have HT2 : Hid (busFrom l x0 (B.take (k + 1)) = if sb < bytesOf l x then (x, bytesOf l x) else (sn, sb)) := HT.out
      have HBY : Hid ((tallyOf (fromL l x)).b = bytesOf l x) := rfl
      obtain ⟨t, ht⟩ : ∃ t, tallyOf (fromL l x) = t := ⟨_, rfl⟩
      rw [ht] at HBY ⊢
      clear ht HT hb2 e0
      obtain ⟨th, tw, tr, ts, tO, tb⟩ := t
      simp only [Tal.cells]
      rw [← HBY.out] at HT2
      have hfi := fun W => field32 th tw tr ts tO tb W
      clear HBY
      go_wp2_with fail
      clear hfi
      refine (refFrom14 l sn w2 oa _ c (H.out.below hbel.out) HL.out).mono ?_
      rintro r w3 ⟨rfl, hb2⟩
      replace hbel := Lib.hid (below_step hbel.out hb2)
      have HBY : Hid ((tallyOf (fromL l sn)).b = sb) := HSND.out.symm
      obtain ⟨t, ht⟩ : ∃ t, tallyOf (fromL l sn) = t := ⟨_, rfl⟩
      rw [ht] at HBY ⊢
      clear ht hb2 HSND
      obtain ⟨th2, tw2, tr2, ts2, tO2, tb2⟩ := t
      simp only [Tal.cells]
      have hby := HBY.out
      simp only at hby
      subst hby
      have hfi := fun W => field32 th2 tw2 tr2 ts2 tO2 tb2 W
      clear HBY
      replace e0 := (hbel.out.cell (p := ⟨b1, p1 + k, none⟩) hb1).trans E0.out
      have hbz2 := Nat.lt_of_lt_of_le hb1 hbel.out.size
      by_cases hbig : tb2 < tb
      · have HT3 : Hid (busFrom l x0 (B.take (k + 1)) = (x, tb)) := by show _ = _; rw [HT2.out, if_pos hbig]
        clear HT2
        go_wp2_with fail
        go_roundw
        case measure => (simp [intOf]) <;> omega
        case rel => exact ⟨k + 1, _, by omega, rfl, rfl, Lib.hid (by rw [HT3.out]), hbel⟩
      · have HT3 : Hid (busFrom l x0 (B.take (k + 1)) = (sn, tb2)) := by show _ = _; rw [HT2.out, if_neg hbig]
        clear HT2
        go_wp2_with fail
        go_roundw
        case measure => (simp [intOf]) <;> omega
        case rel => exact ⟨k + 1, _, by omega, rfl, rfl, Lib.hid (by rw [HT3.out]), hbel⟩
    · obtain rfl : k = B.length := by omega
      rw [List.take_length] at HSND ⊢
      obtain ⟨s, hs⟩ : ∃ s, busFrom l x0 B = s := ⟨_, rfl⟩
      rw [hs] at HBO HSND ⊢
      clear hs
      obtain ⟨sn, sb⟩ := s
      have HN2 : Hid (max sb 0 = sb) := by show _ = _; have := HNN.out sn; have h := HSND.out; simp only at h; omega
      go_wp2_with fail
      refine (refFrom14 l sn wr oa _ c (H.out.below hbel.out) HL.out).mono ?_
      rintro r w3 ⟨rfl, hb2⟩
      replace hbel := Lib.hid (below_step hbel.out hb2)
      have HBY : Hid ((tallyOf (fromL l sn)).b = sb) := HSND.out.symm
      obtain ⟨t, ht⟩ : ∃ t, tallyOf (fromL l sn) = t := ⟨_, rfl⟩
      rw [ht] at HBY ⊢
      clear ht hb2 HSND
      obtain ⟨th2, tw2, tr2, ts2, tO2, tb2⟩ := t
      simp only [Tal.cells]
      have hby := HBY.out
      simp only at hby
      subst hby
      have hfi := fun W => field32 th2 tw2 tr2 ts2 tO2 tb2 W
      clear HBY
      have HB3 := Lib.hid (below_step HB.out hbel.out)
      go_wp2
      refine bodyPost_ret (v := .tuple #[.string sn, .int .i64 tb2]) (by simp [results, Try.results9, go_sem]) rfl ⟨HBO.out _ (by rw [HN2.out]), HB3.out⟩
end Go.Proofs.Ythobmcpilfalgaa
