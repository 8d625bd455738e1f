/-
  The law's walk: what is late and what is left.
-/
import Derived.Test.YtmbakknpnilooaaWm
namespace Go.Proofs.Ytmbakknpnilooaa
open Go.RowKit Go.Proofs.Ytmbakknpnilooaa.Plan Go.Proofs.Ytmbakknpnilooaa.Eager
set_option maxHeartbeats 4000000
set_option maxRecDepth 20000
set_option linter.unusedVariables false
set_option linter.unusedSimpArgs false

theorem late_sum (now : Int) (C : List PC) : (lateC now C).length + (restC now C).length = C.length := by
  unfold lateC restC
  induction C with
  | nil => rfl
  | cons a l ih =>
    rw [List.filter_cons, List.filter_cons]
    cases h : decide (a.til < now) <;> simp <;> omega
theorem late_rest (now : Int) (C : List PC) : lateC now (restC now C) = [] := by
  unfold lateC restC
  rw [List.filter_filter, List.filter_eq_nil_iff]
  intro a _
  cases h : decide (a.til < now) <;> simp
theorem rest_rest (now : Int) (C : List PC) : restC now (restC now C) = restC now C := by
  unfold restC
  rw [List.filter_filter]; simp
theorem sub_small {A B : List Pd} (h : ∀ x ∈ A.map Pd.c, x ∈ B.map Pd.c) (hs : ∀ p ∈ B, p.m.small) : ∀ p ∈ A, p.m.small := by
  intro p hp
  obtain ⟨q, hq, e⟩ := List.mem_map.1 (h _ (List.mem_map_of_mem hp))
  have e2 : q.m.c = p.m.c := congrArg PC.m e
  have := hs q hq
  unfold Mg.small at this ⊢
  rwa [e2] at this
theorem late_til {A : List Pd} {now : Int} {C : List PC} (h : A.map Pd.c = lateC now C) {k : Nat} (hk : k < A.length) : A[k].til < now := by
  have h1 : A[k].c ∈ A.map Pd.c := List.mem_map_of_mem (List.getElem_mem hk)
  rw [h] at h1
  have := (List.mem_filter.1 h1).2
  exact of_decide_eq_true this
theorem pendsLate4 (l : List Pd) (now : Int) (w : World) (oa : Option Addr) (n c : Nat) (h : RPd w oa n c l) :
    Calls Try.prog 4 #[.slice oa n c, .int .i64 now] w fun r w' => r = .returned (.bool true) ∧ Below w.heap.size w w' := by
  obtain rfl : n = l.length := h.rows.rows.len
  have H := Lib.hid h
  clear h
  go_enter Try.func4, Try.ntmps4
  go_wp2_with fail
  refine (works7 w).mono ?_
  rintro r w1 ⟨rfl, hb⟩
  replace H := Lib.hid (H.out.below hb); have HB := Lib.hid hb
  clear hb
  go_wp2_with fail
  refine (great6 l _ oa _ c H.out).mono ?_
  rintro r w2 ⟨⟨b, rfl, hbl⟩, hb⟩
  replace H := Lib.hid (H.out.below hb); replace HB := Lib.hid (below_step HB.out hb)
  have HBL := Lib.hid hbl
  clear hb hbl
  cases b with
  | true =>
    go_wp2
    refine bodyPost_ret (v := .bool true) (by simp [results, Try.results4, go_sem]) rfl ⟨rfl, HB.out⟩
  | false =>
  have HS : Hid (l.length ≤ 900 ∧ ∀ p ∈ l, p.m.small) := ⟨by have := (HBL.out rfl).1; omega, (HBL.out rfl).2⟩
  clear HBL
  go_wp2_with fail
  refine (late11 l now _ oa _ c H.out HS.out.1 HS.out.2).mono ?_
  rintro r w3 ⟨o1, n1, c1, A, o2, n2, c2, B, rfl, hA, hB, hAc, hBc, hb⟩
  replace HB := Lib.hid (below_step HB.out hb)
  obtain rfl : n1 = A.length := hA.rows.rows.len
  obtain rfl : n2 = B.length := hB.rows.rows.len
  have hsum : A.length + B.length = l.length := by
    have h1 := late_sum now (l.map Pd.c)
    rw [← hAc, ← hBc] at h1
    simpa using h1
  have HBS : Hid (B.length ≤ 900 ∧ ∀ p ∈ B, p.m.small) := ⟨by have := HS.out.1; omega, sub_small (fun x hx => by rw [hBc] at hx; exact (List.mem_filter.1 hx).1) HS.out.2⟩
  have HBC := Lib.hid hBc; have HAC := Lib.hid hAc
  have HA := Lib.hid hA; have HBB := Lib.hid hB
  have hs1 : IntKind.i64.wrap ((A.length : Int) + (B.length : Int)) = (l.length : Int) := by
    have := HS.out.1
    rw [IntKind.wrap_i64]; omega
  have HSUM := Lib.hid hs1
  have HAL : Hid (A.length ≤ 900) := by show _ ≤ _; have := HS.out.1; omega
  clear hb hA hB hAc hBc hsum H hs1
  go_wp2_with fail
  refine (late11 B now _ o2 _ c2 HBB.out HBS.out.1 HBS.out.2).mono ?_
  rintro r w4 ⟨o3, n3, c3, A3, o4, n4, c4, B4, rfl, hA3, hB4, hA3c, hB4c, hb⟩
  replace HB := Lib.hid (below_step HB.out hb); replace HA := Lib.hid (HA.out.below hb); replace HBB := Lib.hid (HBB.out.below hb)
  rw [HBC.out, late_rest] at hA3c
  rw [HBC.out, rest_rest] at hB4c
  obtain rfl : A3 = [] := List.map_eq_nil_iff.1 hA3c
  obtain rfl : n3 = 0 := hA3.rows.rows.len
  have HSM : Hid (sameD B4 B = true) := sameD_of (hB4c.trans HBC.out.symm)
  have HB4 := Lib.hid hB4
  have hs1 := HSUM.out
  clear hb hA3 hB4 hA3c hB4c HBC HS HBS
  go_wp2_with fail
  refine (same16 B4 B _ o4 o2 _ _ c4 c2 HB4.out HBB.out).mono ?_
  rintro r w5 ⟨rfl, hb⟩
  rw [HSM.out]
  replace HB := Lib.hid (below_step HB.out hb); replace HA := Lib.hid (HA.out.below hb)
  clear hb HBB HB4 HSM hs1
  go_wp2_with fail
  go_loopw [10, 48] (fun _ u wr => ∃ k : Nat, k ≤ A.length ∧ u = .int .i64 k ∧ Hid (Below w5.heap.size w5 wr)) (fun _ u _ => A.length - (intOf u).toNat)
  case atStart => exact ⟨0, by omega, rfl, Lib.hid (Below.refl _ _)⟩
  case round =>
    obtain ⟨k, hk, rfl, hbel⟩ := hrel
    by_cases hlt : k < A.length
    · have hi1 : (k : Int) < (A.length : Int) := by omega
      have rk : IntKind.i64.wrap ((k : Int) + 1) = ((k + 1 : Nat) : Int) := by
        have h1 := HAL.out
        rw [IntKind.wrap_i64]; omega
      obtain ⟨b1, p1, rfl, hX⟩ := (HA.out.below hbel.out).rows.rows.pd hlt
      have ht := late_til HAC.out hlt
      obtain ⟨p, hp⟩ : ∃ p, A[k] = p := ⟨_, rfl⟩
      rw [hp] at hX ht
      have HX := Lib.hid hX
      clear hp hX
      obtain ⟨wA, rfl⟩ : ∃ x, x = wr := ⟨_, rfl⟩
      have hal : Below wA.heap.size wA (wA.alloc (.cells pd0.cells.toArray 32)) := (Below.refl _ _).alloc (Nat.le_refl _) _
      have hZ : Blk (wA.alloc (.cells pd0.cells.toArray 32)) wA.heap.size pd0.cells := Blk.new' rfl
      have HAL2 := Lib.hid hal; have HZ := Lib.hid hZ
      clear hal hZ
      go_wp2_with (refine stop_load (ty := 32) rfl ?_)
      refine ⟨wpList_load_at rfl rfl HX.out (by rfl) row32 ?_⟩
      go_wp2_with (refine stop_store (ty := 32) rfl ?_)
      refine ⟨wpList_store_blk rfl rfl HZ.out (by rfl) (vs := p.cells) (by rfl) row32 rfl (pd_one p) ?_⟩
      intro W5 hX5 hg5
      have hbk5 := Below.grownB HAL2.out hg5 (Nat.le_refl _) HAL2.out.size
      have HB5 := Lib.hid (below_step hbel.out hbk5)
      have x3 : W5.cell? ⟨wA.heap.size, 3, none⟩ = some (.int .i64 p.til) := pd_at hX5 3 (by omega)
      have hxl := hX5.lt
      have hnot : ¬ now ≤ p.til := by omega
      clear hX5 hg5 hbk5 HAL2 HZ HX hbel ht
      go_wp2_with fail
      go_roundw
      case measure => (simp [intOf]) <;> omega
      case rel => exact ⟨k + 1, by omega, rfl, HB5⟩
    · obtain rfl : k = A.length := by omega
      have HB2 := Lib.hid (below_step HB.out hbel.out)
      clear hbel
      go_wp2
      refine bodyPost_ret (v := .bool true) (by simp [results, Try.results4, go_sem]) rfl ⟨rfl, HB2.out⟩
end Go.Proofs.Ytmbakknpnilooaa
