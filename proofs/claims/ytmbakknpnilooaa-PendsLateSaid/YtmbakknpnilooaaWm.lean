/-
  The law's walk: requests with one more, without one, and apart by any time.
-/
import Derived.Test.YtmbakknpnilooaaWl
namespace Go.Proofs.Ytmbakknpnilooaa
open Go.RowKit Go.Proofs.Ytmbakknpnilooaa.Plan Go.Proofs.Ytmbakknpnilooaa.Eager
set_option maxHeartbeats 4000000
set_option maxRecDepth 20000
set_option linter.unusedVariables false
set_option linter.unusedSimpArgs false

theorem sameD_of {A B : List Pd} (h : A.map Pd.c = B.map Pd.c) : sameD A B = true := decide_eq_true h
theorem map_small {A B : List Pd} (h : A.map Pd.c = B.map Pd.c) (hs : ∀ p ∈ B, p.m.small) : ∀ p ∈ A, p.m.small := by
  intro p hp
  have h1 : p.c ∈ B.map Pd.c := by rw [← h]; exact List.mem_map_of_mem hp
  obtain ⟨q, hq, e⟩ := List.mem_map.1 h1
  have e2 : q.m.c = p.m.c := congrArg PC.m e
  have := hs q hq
  unfold Mg.small at this ⊢
  rwa [e2] at this
theorem pendsMoves3 (l : List Pd) (p : Pd) (i now : Int) (w : World) (oa : Option Addr) (n c : Nat) (h : RPd w oa n c l) (hp : p.m.Good w) :
    Calls Try.prog 3 #[.slice oa n c, .agg p.cells.toArray, .int .i64 i, .int .i64 now] w fun r w' => r = .returned (.bool true) ∧ Below w.heap.size w w' := by
  obtain rfl : n = l.length := h.rows.rows.len
  have hal : Below w.heap.size w (w.alloc (.cells p.cells.toArray 32)) := (Below.refl _ _).alloc (Nat.le_refl _) _
  have HX : Hid (Blk (w.alloc (.cells p.cells.toArray 32)) w.heap.size p.cells) := Blk.new' rfl
  have H := Lib.hid (h.below hal); have HP := Lib.hid (hp.below hal); have HB := Lib.hid hal
  clear h hp hal
  go_enter Try.func3, Try.ntmps3
  go_wp2_with fail
  refine (great6 l _ oa _ c H.out).mono ?_
  rintro r w2 ⟨⟨b, rfl, hbl⟩, hb⟩
  replace HX := Lib.hid (HX.out.later hb); replace H := Lib.hid (H.out.below hb); replace HP := Lib.hid (HP.out.below hb); replace HB := Lib.hid (below_step HB.out hb)
  have HBL := Lib.hid hbl
  clear hb hbl
  cases b with
  | true =>
    go_wp2_with fail
    refine (works7 _).mono ?_
    rintro r w3 ⟨rfl, hb⟩
    replace HB := Lib.hid (below_step HB.out hb)
    clear hb
    go_wp2
    refine bodyPost_ret (v := .bool true) (by simp [results, Try.results3, go_sem]) rfl ⟨rfl, HB.out⟩
  | false =>
  have HS : Hid (l.length ≤ 900 ∧ ∀ p ∈ l, p.m.small) := ⟨by have := (HBL.out rfl).1; omega, (HBL.out rfl).2⟩
  clear HBL
  have hal : Below w2.heap.size w2 (w2.alloc (.cells p.cells.toArray 32)) := (Below.refl _ _).alloc (Nat.le_refl _) _
  have HN := Lib.hid (Blk.new' (w := w2) (cs := p.cells) (e := 32) (b := w2.heap.size) rfl)
  have HX0 := HX
  replace HX := Lib.hid (HX.out.later hal); replace H := Lib.hid (H.out.below hal); replace HP := Lib.hid (HP.out.below hal); replace HB := Lib.hid (below_step HB.out hal)
  clear hal
  go_wp2_with (refine stop_load (ty := 32) rfl ?_)
  refine ⟨wpList_load_blk_w (by rfl) rfl HX0.out (by rfl) row32 ?_⟩
  clear HX0
  have hlc := cells_23 p
  go_wp2_with fail
  simp only [fold_pd p]
  clear hlc
  refine (great6 [p] _ _ 1 1 ⟨Rws.one HN.out, fun q hq => by rw [List.mem_singleton.1 hq]; exact HP.out⟩).mono ?_
  rintro r w3 ⟨⟨b, rfl, hbl⟩, hb⟩
  replace HX := Lib.hid (HX.out.later hb); replace H := Lib.hid (H.out.below hb); replace HP := Lib.hid (HP.out.below hb); replace HB := Lib.hid (below_step HB.out hb)
  have HBL := Lib.hid hbl
  clear hb hbl HN
  cases b with
  | true =>
    go_wp2_with fail
    refine (works7 _).mono ?_
    rintro r w4 ⟨rfl, hb⟩
    replace HB := Lib.hid (below_step HB.out hb)
    clear hb
    go_wp2
    refine bodyPost_ret (v := .bool true) (by simp [results, Try.results3, go_sem]) rfl ⟨rfl, HB.out⟩
  | false =>
  have HPS : Hid p.m.small := (HBL.out rfl).2 p (by simp)
  clear HBL
  go_wp2_with fail
  refine (copy8 l _ oa _ c H.out HS.out.1 HS.out.2).mono ?_
  rintro r w4 ⟨v, Q, rfl, hC, hb⟩
  replace HX := Lib.hid (HX.out.later hb); replace H := Lib.hid (H.out.below hb); replace HP := Lib.hid (HP.out.below hb); replace HB := Lib.hid (below_step HB.out hb)
  have HQC : Hid (Q.map Pd.c = l.map Pd.c) := hC.c
  have HQS : Hid (Q.length ≤ 900 ∧ ∀ p ∈ Q, p.m.small) := ⟨by rw [hC.len]; exact HS.out.1, map_small hC.c HS.out.2⟩
  obtain ⟨oq, cq, rfl, hQ⟩ := hC.rpd
  have HQ := Lib.hid hQ
  clear hb hC hQ
  go_wp2_with (refine stop_load (ty := 32) rfl ?_)
  refine ⟨wpList_load_blk_w (by rfl) rfl HX.out (by rfl) row32 ?_⟩
  go_wp2_with fail
  refine (add9 Q p _ oq _ cq HQ.out HP.out HPS.out HQS.out.1 HQS.out.2).mono ?_
  rintro r w5 ⟨o1, n1, c1, A1, rfl, hA1, hA1c, hb⟩
  rw [HQC.out] at hA1c
  replace HX := Lib.hid (HX.out.later hb); replace H := Lib.hid (H.out.below hb); replace HP := Lib.hid (HP.out.below hb); replace HQ := Lib.hid (HQ.out.below hb); replace HB := Lib.hid (below_step HB.out hb)
  have HA1 := Lib.hid hA1; have HA1C := Lib.hid hA1c
  clear hb hA1 hA1c
  rw [HQC.out]
  go_wp2_with (refine stop_load (ty := 32) rfl ?_)
  refine ⟨wpList_load_blk_w (by rfl) rfl HX.out (by rfl) row32 ?_⟩
  go_wp2_with fail
  refine (refAdd10 l p _ oa _ c H.out HP.out HS.out.1).mono ?_
  rintro r w6 ⟨o2, n2, c2, A2, rfl, hA2, hA2c, hb⟩
  replace H := Lib.hid (H.out.below hb); replace HQ := Lib.hid (HQ.out.below hb); replace HA1 := Lib.hid (HA1.out.below hb); replace HB := Lib.hid (below_step HB.out hb)
  have HA2 := Lib.hid hA2; have HA2C := Lib.hid hA2c
  clear hb hA2 hA2c HX HP HPS
  go_wp2_with fail
  refine (late11 Q now _ oq _ cq HQ.out HQS.out.1 HQS.out.2).mono ?_
  rintro r w7 ⟨o3, n3, c3, A3, o4, n4, c4, A4, rfl, hA3, hA4, hA3c, hA4c, hb⟩
  rw [HQC.out] at hA3c hA4c
  replace H := Lib.hid (H.out.below hb); replace HQ := Lib.hid (HQ.out.below hb); replace HA1 := Lib.hid (HA1.out.below hb); replace HA2 := Lib.hid (HA2.out.below hb); replace HB := Lib.hid (below_step HB.out hb)
  have HA3 := Lib.hid hA3; have HA3C := Lib.hid hA3c; have HA4 := Lib.hid hA4; have HA4C := Lib.hid hA4c
  clear hb hA3 hA3c hA4 hA4c
  go_wp2_with fail
  refine (refLate12 l now _ oa _ c H.out HS.out.1).mono ?_
  rintro r w8 ⟨o5, n5, c5, A5, o6, n6, c6, A6, rfl, hA5, hA6, hA5c, hA6c, hb⟩
  replace H := Lib.hid (H.out.below hb); replace HQ := Lib.hid (HQ.out.below hb); replace HA1 := Lib.hid (HA1.out.below hb); replace HA2 := Lib.hid (HA2.out.below hb); replace HA3 := Lib.hid (HA3.out.below hb); replace HA4 := Lib.hid (HA4.out.below hb); replace HB := Lib.hid (below_step HB.out hb)
  have HA5 := Lib.hid hA5; have HA6 := Lib.hid hA6
  have HE1 : Hid (sameD A1 A2 = true) := sameD_of (HA1C.out.trans HA2C.out.symm)
  have HE2 : Hid (sameD A3 A5 = true) := sameD_of (HA3C.out.trans hA5c.symm)
  have HE3 : Hid (sameD A4 A6 = true) := sameD_of (HA4C.out.trans hA6c.symm)
  have HE4 : Hid (sameD Q l = true) := sameD_of HQC.out
  clear hb hA5 hA6 hA5c hA6c HA1C HA2C HA3C HA4C
  go_wp2_with fail
  refine (refSame13 A1 A2 _ o1 o2 _ _ c1 c2 HA1.out HA2.out).mono ?_
  rintro r w9 ⟨rfl, hb⟩
  rw [HE1.out]
  replace H := Lib.hid (H.out.below hb); replace HQ := Lib.hid (HQ.out.below hb); replace HA3 := Lib.hid (HA3.out.below hb); replace HA4 := Lib.hid (HA4.out.below hb); replace HA5 := Lib.hid (HA5.out.below hb); replace HA6 := Lib.hid (HA6.out.below hb); replace HB := Lib.hid (below_step HB.out hb)
  clear hb HA1 HA2 HE1
  go_wp2_with fail
  refine (refSame13 A3 A5 _ o3 o5 _ _ c3 c5 HA3.out HA5.out).mono ?_
  rintro r w10 ⟨rfl, hb⟩
  rw [HE2.out]
  replace H := Lib.hid (H.out.below hb); replace HQ := Lib.hid (HQ.out.below hb); replace HA4 := Lib.hid (HA4.out.below hb); replace HA6 := Lib.hid (HA6.out.below hb); replace HB := Lib.hid (below_step HB.out hb)
  clear hb HA3 HA5 HE2
  go_wp2_with fail
  refine (refSame13 A4 A6 _ o4 o6 _ _ c4 c6 HA4.out HA6.out).mono ?_
  rintro r w11 ⟨rfl, hb⟩
  rw [HE3.out]
  replace H := Lib.hid (H.out.below hb); replace HQ := Lib.hid (HQ.out.below hb); replace HB := Lib.hid (below_step HB.out hb)
  clear hb HA4 HA6 HE3
  go_wp2_with fail
  refine (drop14 Q i _ oq _ cq HQ.out HQS.out.1 HQS.out.2).mono ?_
  rintro r w12 ⟨o7, n7, c7, A7, rfl, hA7, hA7c, hb⟩
  rw [HQC.out] at hA7c
  replace H := Lib.hid (H.out.below hb); replace HQ := Lib.hid (HQ.out.below hb); replace HB := Lib.hid (below_step HB.out hb)
  have HA7 := Lib.hid hA7; have HA7C := Lib.hid hA7c
  clear hb hA7 hA7c
  go_wp2_with fail
  refine (refDropOut l i _ oa _ c H.out HS.out.1).mono ?_
  rintro r w13 ⟨o8, n8, c8, A8, rfl, hA8, hA8c, hb⟩
  replace H := Lib.hid (H.out.below hb); replace HQ := Lib.hid (HQ.out.below hb); replace HA7 := Lib.hid (HA7.out.below hb); replace HB := Lib.hid (below_step HB.out hb)
  have HA8 := Lib.hid hA8
  have HE5 : Hid (sameD A7 A8 = true) := sameD_of (HA7C.out.trans hA8c.symm)
  clear hb hA8 hA8c HA7C
  go_wp2_with fail
  refine (refSame13 A7 A8 _ o7 o8 _ _ c7 c8 HA7.out HA8.out).mono ?_
  rintro r w14 ⟨rfl, hb⟩
  rw [HE5.out]
  replace H := Lib.hid (H.out.below hb); replace HQ := Lib.hid (HQ.out.below hb); replace HB := Lib.hid (below_step HB.out hb)
  clear hb HA7 HA8 HE5
  go_wp2_with fail
  refine (refSame13 Q l _ oq oa _ _ cq c HQ.out H.out).mono ?_
  rintro r w15 ⟨rfl, hb⟩
  rw [HE4.out]
  replace HB := Lib.hid (below_step HB.out hb)
  clear hb H HQ HE4
  go_wp2_with fail
  refine (works7 _).mono ?_
  rintro r w16 ⟨rfl, hb⟩
  replace HB := Lib.hid (below_step HB.out hb)
  clear hb
  go_wp2
  refine bodyPost_ret (v := .bool true) (by simp [results, Try.results3, go_sem]) rfl ⟨rfl, HB.out⟩
end Go.Proofs.Ytmbakknpnilooaa
