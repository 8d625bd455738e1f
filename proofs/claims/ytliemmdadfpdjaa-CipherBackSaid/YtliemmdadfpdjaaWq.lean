/-
  The law's walk: changed back.
-/
import Derived.Test.YtliemmdadfpdjaaWl
import Derived.Test.YtliemmdadfpdjaaWm
namespace Go.Proofs.Ytliemmdadfpdjaa
open Go.RowKit Go.Proofs.Ytliemmdadfpdjaa.Plan Go.Proofs.Ytliemmdadfpdjaa.Eager
set_option maxHeartbeats 1000000
set_option maxRecDepth 20000
set_option linter.unusedVariables false
set_option linter.unusedSimpArgs false

theorem xorM_length (key nonce : List UInt8) (ctr : UInt32) (msg : List UInt8) : (xorM key nonce ctr msg).length = msg.length := by simp [xorM]
theorem xorM_twice (key nonce : List UInt8) (ctr : UInt32) (msg : List UInt8) : xorM key nonce ctr (xorM key nonce ctr msg) = msg := by
  apply List.ext_getElem
  · simp [xorM]
  · intro i h1 h2
    simp only [xorM, List.getElem_map, List.getElem_range, xorByte, List.length_map, List.length_range]
    simp only [List.getD_eq_getElem?_getD, List.getElem?_map, List.getElem?_range h2, Option.map_some, Option.getD_some, List.getElem?_eq_getElem h2]
    unfold xorByte
    simp only [List.getD_eq_getElem?_getD, List.getElem?_eq_getElem h2, Option.getD_some]
    rw [UInt8.xor_assoc, UInt8.xor_self, UInt8.xor_zero]
theorem xorM_take (key nonce : List UInt8) (ctr : UInt32) (msg : List UInt8) (p : Nat) (hp : p ≤ msg.length) : xorM key nonce ctr (msg.take p) = (xorM key nonce ctr msg).take p := by
  apply List.ext_getElem
  · simp [xorM]
  · intro i h1 h2
    have h3 : i < p := by simp [xorM] at h1; omega
    simp only [xorM, List.getElem_map, List.getElem_range, xorByte, List.getElem_take]
    congr 1
    simp [List.getD_eq_getElem?_getD, List.getElem?_take, h3]
theorem Reads.take {w : World} {oa : Option Addr} {n : Nat} {l : List UInt8} (h : Reads w oa n l) {p : Nat} (hp : p ≤ n) : Reads w oa p (l.take p) := by
  have hl := h.len
  refine ⟨by rw [List.length_take]; omega, fun i hi => ?_⟩
  simp only [List.length_map, List.length_take] at hi
  obtain ⟨b, o, e, hc⟩ := h.cells i (by rw [List.length_map]; omega)
  refine ⟨b, o, e, ?_⟩
  rw [hc]
  simp only [List.getElem?_map, List.getElem?_take]
  rw [if_pos (by omega)]

theorem over_big {c : UInt32} {n : Nat} (h1 : n ≤ 1000) (h : 4294967296 - c.toNat < (n + 63) / 64) : (2147483648 : Int) < (c.toNat : Int) := by
  have hc := c.toNat_lt
  generalize c.toNat = x at *
  have : (n + 63) / 64 ≤ 16 := by omega
  have h2 : 4294967296 < 16 + x := by
    have := Nat.lt_of_lt_of_le h this
    exact Nat.sub_lt_iff_lt_add (by omega) |>.1 this
  omega
theorem over_take {c : UInt32} {l : List UInt8} (p : Nat) (h : ¬ 4294967296 - c.toNat < (l.length + 63) / 64) : ¬ 4294967296 - c.toNat < ((l.take p).length + 63) / 64 := by
  intro h2
  apply h
  refine Nat.lt_of_lt_of_le h2 (Nat.div_le_div_right ?_)
  rw [List.length_take]
  have := Nat.min_le_right p l.length
  omega

theorem back_any (key nonce : List UInt8) (ctr : UInt32) (msg : List UInt8) (k : UInt16) (w : World) (om : Option Addr) (m e : Nat) (hlk : key.length = 32) (hln : nonce.length = 12) (hm : Reads w om m msg) (he : m ≤ e) (hme : e ≤ maxLen) :
    Calls Try.prog 6 #[.agg (key.map By).toArray, .agg (nonce.map By).toArray, .int .u32 (ctr.toNat : Int), .slice om m e, .int .u16 (k.toNat : Int)] w fun r w' => r = .returned (.bool true) ∧ Below w.heap.size w w' := by
  obtain rfl : m = msg.length := hm.len
  have HLK := Lib.hid hlk; have HLN := Lib.hid hln; clear hlk hln
  have hKb := (Blk.first w (key.map By) 37 (.cells (nonce.map By).toArray 38)).cells
  have hNb := (Blk.second w (nonce.map By) 38 (.cells (key.map By).toArray 37)).cells
  have hbA : Below w.heap.size w ((w.alloc (.cells (key.map By).toArray 37)).alloc (.cells (nonce.map By).toArray 38)) := by (with_reducible try refine Lib.hid ?_); (repeat (with_reducible first | assumption | exact Below.refl _ _ | apply Below.drew | apply Below.drewN' | apply Below.setCell | apply Below.alloc)) <;> (try simp [length_fillTo, length_turnTo]) <;> (try omega)
  have HK := Lib.hid hKb; have HN := Lib.hid hNb; have HB := Lib.hid hbA; have HM := Lib.hid hm; have HE := Lib.hid he; have HME := Lib.hid hme
  clear hKb hNb hbA hm he hme
  go_enter Try.func6, Try.ntmps6
  go_wp2_with fail
  refine (works9 _).mono ?_
  rintro r w1 ⟨rfl, hb1⟩
  have HK1 : Hid (Reads w1 (some ⟨w.heap.size, 0, none⟩) 32 key) := ⟨HLK.out.symm, HK.out.below hb1 (Nat.le_refl _)⟩
  have HN1 : Hid (Reads w1 (some ⟨w.heap.size + 1, 0, none⟩) 12 nonce) := ⟨HLN.out.symm, HN.out.below hb1 (Nat.le_refl _)⟩
  have HM1 : Hid (Reads w1 om msg.length msg) := (HM.out.below HB.out).below hb1
  have HB1 : Hid (Below w.heap.size w w1) := below_step HB.out hb1
  clear HK HN HM HB hb1
  by_cases hbig : 1000 < msg.length
  · have hbig' : (1000 : Int) < (msg.length : Int) := by omega
    have hend := HB1.out
    go_wp2
    refine bodyPost_ret (v := .bool true) (by simp [results, Try.results6, go_sem]) rfl ⟨rfl, hend⟩
  have hbig' : ¬ (1000 : Int) < (msg.length : Int) := by omega
  have HMX : Hid (msg.length ≤ 1000000) := by show _ ≤ _; omega
  have HK := HK1; have HN := HN1; have HM := HM1; have HB := HB1; clear HK1 HN1 HM1 HB1
  go_wp2_with fail
  by_cases hover : 4294967296 - ctr.toNat < (msg.length + 63) / 64
  · have HOV := Lib.hid hover
    have hgt : (2147483648 : Int) < (ctr.toNat : Int) := over_big (by omega) hover
    clear hover hbig
    refine wp_region_plan none [] [] (.take 0 (.take 1 (.take 2 (.take 3 (.one 4 (.take 5 (.take 6 (.take 7 (.take 8 (.take 9 .done)))))))))) (by kernel_rfl) (by kernel_rfl) (fun _ _ dd _ _ h => by cases dd <;> exact h) ?_
    intro W0 hW0
    have hb0' : Below w.heap.size w W0 := by rw [hW0]; exact HB.out.drew
    have hK0 : Reads W0 (some ⟨w.heap.size, 0, none⟩) 32 key := by rw [hW0]; exact HK.out.below (below_drew _)
    have hN0 : Reads W0 (some ⟨w.heap.size + 1, 0, none⟩) 12 nonce := by rw [hW0]; exact HN.out.below (below_drew _)
    have hM0 : Reads W0 om msg.length msg := by rw [hW0]; exact HM.out.below (below_drew _)
    clear hW0
    (refine pl_take (d := 24) (v := ?_) rfl rfl rfl ?_ ?_; rotate_left; (focus ((intro w' hb0 hw'; go_simp) <;> with_reducible rfl)); simp only [Act.put, List.setIfInBounds_toArray, List.set_cons_zero, List.set_cons_succ])
    (refine pl_take (d := 25) (v := ?_) rfl rfl rfl ?_ ?_; rotate_left; (focus ((intro w' hb0 hw'; go_simp) <;> with_reducible rfl)); simp only [Act.put, List.setIfInBounds_toArray, List.set_cons_zero, List.set_cons_succ])
    (refine pl_take (d := 26) (v := ?_) rfl rfl rfl ?_ ?_; rotate_left; (focus ((intro w' hb0 hw'; go_simp) <;> with_reducible rfl)); simp only [Act.put, List.setIfInBounds_toArray, List.set_cons_zero, List.set_cons_succ])
    (refine pl_take (d := 27) (v := ?_) rfl rfl rfl ?_ ?_; rotate_left; (focus ((intro w' hb0 hw'; go_simp) <;> with_reducible rfl)); simp only [Act.put, List.setIfInBounds_toArray, List.set_cons_zero, List.set_cons_succ])
    refine pl_one rfl rfl (fun K hK => ?_)
    go_simp
    refine (xor12_big msg ctr W0 (some ⟨w.heap.size, 0, none⟩) (some ⟨w.heap.size + 1, 0, none⟩) om 32 12 e HMX.out HOV.out).mono ?_
    rintro r W1 ⟨rfl, hw1⟩
    rw [hw1]; clear hw1 W1
    refine hK _ _ (Below.refl _ _ : Rel none W0 W0) ?_
    clear hK
    (refine pl_take (d := 23) (v := ?_) rfl rfl rfl ?_ ?_; rotate_left; (focus ((intro w' hb0 hw'; go_simp) <;> with_reducible rfl)); simp only [Act.put, List.setIfInBounds_toArray, List.set_cons_zero, List.set_cons_succ])
    (refine pl_take (d := 29) (v := ?_) rfl rfl rfl ?_ ?_; rotate_left; (focus ((intro w' hb0 hw'; go_simp) <;> with_reducible rfl)); simp only [Act.put, List.setIfInBounds_toArray, List.set_cons_zero, List.set_cons_succ])
    (refine pl_take (d := 30) (v := ?_) rfl rfl rfl ?_ ?_; rotate_left; (focus ((intro w' hb0 hw'; go_simp) <;> with_reducible rfl)); simp only [Act.put, List.setIfInBounds_toArray, List.set_cons_zero, List.set_cons_succ])
    (refine pl_take (d := 11) (v := ?_) rfl rfl rfl ?_ ?_; rotate_left; (focus ((intro w' hb0 hw'; go_simp) <;> with_reducible rfl)); simp only [Act.put, List.setIfInBounds_toArray, List.set_cons_zero, List.set_cons_succ])
    (refine pl_take (d := 12) (v := ?_) rfl rfl rfl ?_ ?_; rotate_left; (focus ((intro w' hb0 hw'; go_simp) <;> with_reducible rfl)); simp only [Act.put, List.setIfInBounds_toArray, List.set_cons_zero, List.set_cons_succ])
    refine pl_end ?_
    go_wp2
    refine bodyPost_ret (v := .bool true) (by simp [results, Try.results6, go_sem]) rfl ⟨rfl, hb0'⟩
  · have HOV := Lib.hid hover
    clear hover hbig
    refine wp_region_plan none [] [] (.take 0 (.take 1 (.take 2 (.take 3 (.one 4 (.take 5 (.take 6 (.take 7 (.take 8 (.take 9 .done)))))))))) (by kernel_rfl) (by kernel_rfl) (fun _ _ dd _ _ h => by cases dd <;> exact h) ?_
    intro W0 hW0
    have hb0' : Below w.heap.size w W0 := by rw [hW0]; exact HB.out.drew
    have hK0 : Reads W0 (some ⟨w.heap.size, 0, none⟩) 32 key := by rw [hW0]; exact HK.out.below (below_drew _)
    have hN0 : Reads W0 (some ⟨w.heap.size + 1, 0, none⟩) 12 nonce := by rw [hW0]; exact HN.out.below (below_drew _)
    have hM0 : Reads W0 om msg.length msg := by rw [hW0]; exact HM.out.below (below_drew _)
    clear hW0 HK HN HM HB
    (refine pl_take (d := 24) (v := ?_) rfl rfl rfl ?_ ?_; rotate_left; (focus ((intro w' hb0 hw'; go_simp) <;> with_reducible rfl)); simp only [Act.put, List.setIfInBounds_toArray, List.set_cons_zero, List.set_cons_succ])
    (refine pl_take (d := 25) (v := ?_) rfl rfl rfl ?_ ?_; rotate_left; (focus ((intro w' hb0 hw'; go_simp) <;> with_reducible rfl)); simp only [Act.put, List.setIfInBounds_toArray, List.set_cons_zero, List.set_cons_succ])
    (refine pl_take (d := 26) (v := ?_) rfl rfl rfl ?_ ?_; rotate_left; (focus ((intro w' hb0 hw'; go_simp) <;> with_reducible rfl)); simp only [Act.put, List.setIfInBounds_toArray, List.set_cons_zero, List.set_cons_succ])
    (refine pl_take (d := 27) (v := ?_) rfl rfl rfl ?_ ?_; rotate_left; (focus ((intro w' hb0 hw'; go_simp) <;> with_reducible rfl)); simp only [Act.put, List.setIfInBounds_toArray, List.set_cons_zero, List.set_cons_succ])
    refine pl_one rfl rfl (fun K hK => ?_)
    go_simp
    refine (xor12 key nonce ctr msg W0 (some ⟨w.heap.size, 0, none⟩) (some ⟨w.heap.size + 1, 0, none⟩) om 32 32 12 12 _ e hK0 hN0 hM0 HLK.out HLN.out (Nat.le_refl _) (Nat.le_refl _) HMX.out HOV.out).mono ?_
    rintro r W1 ⟨o1, n1, c1, rfl, hr1, hnc1, hcm1, hb1⟩
    refine hK _ _ (hb1 : Rel none W0 W1) ?_
    have hK1 := hK0.below hb1; have hN1 := hN0.below hb1; have hM1 := hM0.below hb1; have hb1' := below_step hb0' hb1
    clear hK hK0 hN0 hM0 hb0' hb1
    (refine pl_take (d := 23) (v := ?_) rfl rfl rfl ?_ ?_; rotate_left; (focus ((intro w' hb0 hw'; go_simp) <;> with_reducible rfl)); simp only [Act.put, List.setIfInBounds_toArray, List.set_cons_zero, List.set_cons_succ])
    (refine pl_take (d := 29) (v := ?_) rfl rfl rfl ?_ ?_; rotate_left; (focus ((intro w' hb0 hw'; go_simp) <;> with_reducible rfl)); simp only [Act.put, List.setIfInBounds_toArray, List.set_cons_zero, List.set_cons_succ])
    (refine pl_take (d := 30) (v := ?_) rfl rfl rfl ?_ ?_; rotate_left; (focus ((intro w' hb0 hw'; go_simp) <;> with_reducible rfl)); simp only [Act.put, List.setIfInBounds_toArray, List.set_cons_zero, List.set_cons_succ])
    (refine pl_take (d := 11) (v := ?_) rfl rfl rfl ?_ ?_; rotate_left; (focus ((intro w' hb0 hw'; go_simp) <;> with_reducible rfl)); simp only [Act.put, List.setIfInBounds_toArray, List.set_cons_zero, List.set_cons_succ])
    (refine pl_take (d := 12) (v := ?_) rfl rfl rfl ?_ ?_; rotate_left; (focus ((intro w' hb0 hw'; go_simp) <;> with_reducible rfl)); simp only [Act.put, List.setIfInBounds_toArray, List.set_cons_zero, List.set_cons_succ])
    refine pl_end ?_
    obtain rfl : n1 = msg.length := hr1.len.trans (xorM_length _ _ _ _)
    obtain ⟨out, hout⟩ : ∃ z, xorM key nonce ctr msg = z := ⟨_, rfl⟩
    rw [hout] at hr1
    have hol : out.length = msg.length := by rw [← hout, xorM_length]
    have HMX2 : Hid (out.length ≤ 1000000) := by show _ ≤ _; rw [hol]; exact HMX.out
    have HOV2 : Hid (¬ 4294967296 - ctr.toNat < (out.length + 63) / 64) := by show ¬ _; rw [hol]; exact HOV.out
    have HOUT := Lib.hid hout; clear hout
    have HOL := Lib.hid hol; clear hol
    have HK := Lib.hid hK1; have HN := Lib.hid hN1; have HM := Lib.hid hM1; have HB := Lib.hid hb1'; have HO := Lib.hid hr1
    have HC1 := Lib.hid (And.intro hnc1 hcm1)
    clear hK1 hN1 hM1 hb1' hr1 hnc1 hcm1
    go_wp2_with fail
    refine wp_region_plan none [] [] (.take 0 (.take 1 (.take 2 (.take 3 (.one 4 (.take 5 (.take 6 (.take 7 (.take 8 (.take 9 .done)))))))))) (by kernel_rfl) (by kernel_rfl) (fun _ _ dd _ _ h => by cases dd <;> exact h) ?_
    intro W0 hW0
    have hb0' : Below w.heap.size w W0 := by rw [hW0]; exact HB.out.drew
    have hK0 : Reads W0 (some ⟨w.heap.size, 0, none⟩) 32 key := by rw [hW0]; exact HK.out.below (below_drew _)
    have hN0 : Reads W0 (some ⟨w.heap.size + 1, 0, none⟩) 12 nonce := by rw [hW0]; exact HN.out.below (below_drew _)
    have hM0 : Reads W0 om msg.length msg := by rw [hW0]; exact HM.out.below (below_drew _)
    have hO0 : Reads W0 o1 msg.length out := by rw [hW0]; exact HO.out.below (below_drew _)
    clear hW0 HK HN HM HB HO
    (refine pl_take (d := 40) (v := ?_) rfl rfl rfl ?_ ?_; rotate_left; (focus ((intro w' hb0 hw'; go_simp) <;> with_reducible rfl)); simp only [Act.put, List.setIfInBounds_toArray, List.set_cons_zero, List.set_cons_succ])
    (refine pl_take (d := 41) (v := ?_) rfl rfl rfl ?_ ?_; rotate_left; (focus ((intro w' hb0 hw'; go_simp) <;> with_reducible rfl)); simp only [Act.put, List.setIfInBounds_toArray, List.set_cons_zero, List.set_cons_succ])
    (refine pl_take (d := 42) (v := ?_) rfl rfl rfl ?_ ?_; rotate_left; (focus ((intro w' hb0 hw'; go_simp) <;> with_reducible rfl)); simp only [Act.put, List.setIfInBounds_toArray, List.set_cons_zero, List.set_cons_succ])
    (refine pl_take (d := 43) (v := ?_) rfl rfl rfl ?_ ?_; rotate_left; (focus ((intro w' hb0 hw'; go_simp) <;> with_reducible rfl)); simp only [Act.put, List.setIfInBounds_toArray, List.set_cons_zero, List.set_cons_succ])
    refine pl_one rfl rfl (fun K hK => ?_)
    go_simp
    refine (xor12 key nonce ctr out W0 (some ⟨w.heap.size, 0, none⟩) (some ⟨w.heap.size + 1, 0, none⟩) o1 32 32 12 12 _ c1 hK0 hN0 hO0 HLK.out HLN.out (Nat.le_refl _) (Nat.le_refl _) HMX2.out HOV2.out).mono ?_
    rintro r W1 ⟨o2, n2, c2, rfl, hr2, hnc2, hcm2, hb1⟩
    refine hK _ _ (hb1 : Rel none W0 W1) ?_
    have hK1 := hK0.below hb1; have hN1 := hN0.below hb1; have hM1 := hM0.below hb1; have hO1 := hO0.below hb1; have hb1' := below_step hb0' hb1
    clear hK hK0 hN0 hM0 hO0 hb0' hb1
    (refine pl_take (d := 39) (v := ?_) rfl rfl rfl ?_ ?_; rotate_left; (focus ((intro w' hb0 hw'; go_simp) <;> with_reducible rfl)); simp only [Act.put, List.setIfInBounds_toArray, List.set_cons_zero, List.set_cons_succ])
    (refine pl_take (d := 45) (v := ?_) rfl rfl rfl ?_ ?_; rotate_left; (focus ((intro w' hb0 hw'; go_simp) <;> with_reducible rfl)); simp only [Act.put, List.setIfInBounds_toArray, List.set_cons_zero, List.set_cons_succ])
    (refine pl_take (d := 46) (v := ?_) rfl rfl rfl ?_ ?_; rotate_left; (focus ((intro w' hb0 hw'; go_simp) <;> with_reducible rfl)); simp only [Act.put, List.setIfInBounds_toArray, List.set_cons_zero, List.set_cons_succ])
    (refine pl_take (d := 13) (v := ?_) rfl rfl rfl ?_ ?_; rotate_left; (focus ((intro w' hb0 hw'; go_simp) <;> with_reducible rfl)); simp only [Act.put, List.setIfInBounds_toArray, List.set_cons_zero, List.set_cons_succ])
    (refine pl_take (d := 14) (v := ?_) rfl rfl rfl ?_ ?_; rotate_left; (focus ((intro w' hb0 hw'; go_simp) <;> with_reducible rfl)); simp only [Act.put, List.setIfInBounds_toArray, List.set_cons_zero, List.set_cons_succ])
    refine pl_end ?_
    have htw : xorM key nonce ctr out = msg := by rw [← HOUT.out, xorM_twice]
    rw [htw] at hr2
    clear htw
    obtain rfl : n2 = msg.length := hr2.len
    have HK := Lib.hid hK1; have HN := Lib.hid hN1; have HM := Lib.hid hM1; have HB := Lib.hid hb1'; have HO := Lib.hid hO1; have HT := Lib.hid hr2
    clear hK1 hN1 hM1 hb1' hO1 hr2 hnc2 hcm2
    have hk16 := k.toNat_lt
    have k0 : IntKind.i64.wrap (k.toNat : Int) = (k.toNat : Int) := by rw [IntKind.wrap_i64]; omega
    clear hk16
    by_cases hkm : msg.length < k.toNat
    · have hkm' : (msg.length : Int) < (k.toNat : Int) := by omega
      have hpm : msg.length ≤ msg.length := Nat.le_refl _
      have hpe : msg.length ≤ e := Nat.le_trans hpm HE.out
      have hpe' : (msg.length : Int) ≤ (e : Int) := by omega
      have hpc : msg.length ≤ c1 := Nat.le_trans hpm HC1.out.1
      have hpc' : (msg.length : Int) ≤ (c1 : Int) := by omega
      have HMX3 : Hid ((msg.take msg.length).length ≤ 1000000) := by show _ ≤ _; rw [List.length_take]; have := HMX.out; omega
      have HOV3 : Hid (¬ 4294967296 - ctr.toNat < ((msg.take msg.length).length + 63) / 64) := over_take _ HOV.out
      go_wp2_with fail
      refine wp_region_plan none [] [] (.take 0 (.take 1 (.take 2 (.take 3 (.take 4 (.take 5 (.one 6 (.take 7 (.take 8 (.take 9 (.take 10 (.take 11 .done)))))))))))) (by kernel_rfl) (by kernel_rfl) (fun _ _ dd _ _ h => by cases dd <;> exact h) ?_
      intro W0 hW0
      have hb0' : Below w.heap.size w W0 := by rw [hW0]; exact HB.out.drew
      have hK0 : Reads W0 (some ⟨w.heap.size, 0, none⟩) 32 key := by rw [hW0]; exact HK.out.below (below_drew _)
      have hN0 : Reads W0 (some ⟨w.heap.size + 1, 0, none⟩) 12 nonce := by rw [hW0]; exact HN.out.below (below_drew _)
      have hM0 : Reads W0 om msg.length msg := by rw [hW0]; exact HM.out.below (below_drew _)
      have hO0 : Reads W0 o1 msg.length out := by rw [hW0]; exact HO.out.below (below_drew _)
      have hT0 : Reads W0 o2 msg.length msg := by rw [hW0]; exact HT.out.below (below_drew _)
      clear hW0 HK HN HM HB HO HT
      (refine pl_take (d := 53) (v := ?_) rfl rfl rfl ?_ ?_; rotate_left; (focus ((intro w' hb0 hw'; go_simp) <;> with_reducible rfl)); simp only [Act.put, List.setIfInBounds_toArray, List.set_cons_zero, List.set_cons_succ])
      (refine pl_take (d := 54) (v := ?_) rfl rfl rfl ?_ ?_; rotate_left; (focus ((intro w' hb0 hw'; go_simp) <;> with_reducible rfl)); simp only [Act.put, List.setIfInBounds_toArray, List.set_cons_zero, List.set_cons_succ])
      (refine pl_take (d := 55) (v := ?_) rfl rfl rfl ?_ ?_; rotate_left; (focus ((intro w' hb0 hw'; go_simp) <;> with_reducible rfl)); simp only [Act.put, List.setIfInBounds_toArray, List.set_cons_zero, List.set_cons_succ])
      (refine pl_take (d := 56) (v := ?_) rfl rfl rfl ?_ ?_; rotate_left; (focus ((intro w' hb0 hw'; go_simp) <;> with_reducible rfl)); simp only [Act.put, List.setIfInBounds_toArray, List.set_cons_zero, List.set_cons_succ])
      (refine pl_take (d := 57) (v := ?_) rfl rfl rfl ?_ ?_; rotate_left; (focus ((intro w' hb0 hw'; go_simp) <;> with_reducible rfl)); simp only [Act.put, List.setIfInBounds_toArray, List.set_cons_zero, List.set_cons_succ])
      (refine pl_take (d := 58) (v := ?_) rfl rfl rfl ?_ ?_; rotate_left; (focus ((intro w' hb0 hw'; go_simp) <;> with_reducible rfl)); simp only [Act.put, List.setIfInBounds_toArray, List.set_cons_zero, List.set_cons_succ])
      refine pl_one rfl rfl (fun K hK => ?_)
      go_simp
      refine (xor12 key nonce ctr (msg.take (msg.length)) W0 (some ⟨w.heap.size, 0, none⟩) (some ⟨w.heap.size + 1, 0, none⟩) om 32 32 12 12 (msg.length) e hK0 hN0 (hM0.take hpm) HLK.out HLN.out (Nat.le_refl _) (Nat.le_refl _) HMX3.out HOV3.out).mono ?_
      rintro r W1 ⟨o3, n3, c3, rfl, hr3, hnc3, hcm3, hb1⟩
      refine hK _ _ (hb1 : Rel none W0 W1) ?_
      have hM1 := hM0.below hb1; have hO1 := hO0.below hb1; have hT1 := hT0.below hb1; have hb1' := below_step hb0' hb1
      clear hK hK0 hN0 hM0 hO0 hT0 hb0' hb1
      (refine pl_take (d := 52) (v := ?_) rfl rfl rfl ?_ ?_; rotate_left; (focus ((intro w' hb0 hw'; go_simp) <;> with_reducible rfl)); simp only [Act.put, List.setIfInBounds_toArray, List.set_cons_zero, List.set_cons_succ])
      (refine pl_take (d := 60) (v := ?_) rfl rfl rfl ?_ ?_; rotate_left; (focus ((intro w' hb0 hw'; go_simp) <;> with_reducible rfl)); simp only [Act.put, List.setIfInBounds_toArray, List.set_cons_zero, List.set_cons_succ])
      (refine pl_take (d := 61) (v := ?_) rfl rfl rfl ?_ ?_; rotate_left; (focus ((intro w' hb0 hw'; go_simp) <;> with_reducible rfl)); simp only [Act.put, List.setIfInBounds_toArray, List.set_cons_zero, List.set_cons_succ])
      (refine pl_take (d := 16) (v := ?_) rfl rfl rfl ?_ ?_; rotate_left; (focus ((intro w' hb0 hw'; go_simp) <;> with_reducible rfl)); simp only [Act.put, List.setIfInBounds_toArray, List.set_cons_zero, List.set_cons_succ])
      (refine pl_take (d := 17) (v := ?_) rfl rfl rfl ?_ ?_; rotate_left; (focus ((intro w' hb0 hw'; go_simp) <;> with_reducible rfl)); simp only [Act.put, List.setIfInBounds_toArray, List.set_cons_zero, List.set_cons_succ])
      refine pl_end ?_
      rw [xorM_take _ _ _ _ _ hpm, HOUT.out] at hr3
      obtain rfl : n3 = msg.length := by have := hr3.len; rw [List.length_take, HOL.out] at this; omega
      have HM := Lib.hid hM1; have HB := Lib.hid hb1'; have HO := Lib.hid hO1; have HT := Lib.hid hT1; have HP := Lib.hid hr3
      clear hM1 hb1' hO1 hT1 hr3 hnc3 hcm3
      go_wp2_with fail
      refine wp_region_plan none [] [] (.take 0 (.take 1 (.take 2 (.take 3 (.take 4 (.take 5 (.take 6 (.take 7 (.take 8 (.take 9 (.take 10 (.take 11 (.take 12 (.take 13 (.take 14 (.take 15 (.take 16 (.take 17 (.take 18 (.take 19 (.take 20 (.take 21 (.take 22 (.take 23 (.take 24 (.take 25 (.take 26 (.take 27 (.take 28 (.take 29 .done)))))))))))))))))))))))))))))) (by kernel_rfl) (by kernel_rfl) (fun _ _ dd _ _ h => by cases dd <;> exact h) ?_
      intro W0 hW0
      have hb0' : Below w.heap.size w W0 := by rw [hW0]; exact HB.out.drew
      have hM0 : Reads W0 om msg.length msg := by rw [hW0]; exact HM.out.below (below_drew _)
      have hO0 : Reads W0 o1 msg.length out := by rw [hW0]; exact HO.out.below (below_drew _)
      have hT0 : Reads W0 o2 msg.length msg := by rw [hW0]; exact HT.out.below (below_drew _)
      have hP0 : Reads W0 o3 (msg.length) (out.take (msg.length)) := by rw [hW0]; exact HP.out.below (below_drew _)
      clear hW0 HM HB HO HT HP
      (refine pl_take (d := 62) (v := ?_) rfl rfl rfl ?_ ?_; rotate_left; (focus ((intro w' hb0 hw'; go_simp) <;> with_reducible rfl)); simp only [Act.put, List.setIfInBounds_toArray, List.set_cons_zero, List.set_cons_succ])
      (refine pl_take (d := 63) (v := ?_) rfl rfl rfl ?_ ?_; rotate_left; (focus ((intro w' hb0 hw'; go_simp) <;> with_reducible rfl)); simp only [Act.put, List.setIfInBounds_toArray, List.set_cons_zero, List.set_cons_succ])
      (refine pl_take (d := 64) (v := ?_) rfl rfl rfl ?_ ?_; rotate_left; (focus ((intro w' hb0 hw'; go_simp) <;> with_reducible rfl)); simp only [Act.put, List.setIfInBounds_toArray, List.set_cons_zero, List.set_cons_succ])
      (refine pl_take (d := 65) (v := ?_) rfl rfl rfl ?_ ?_; rotate_left; (focus ((intro w' hb0 hw'; go_simp) <;> with_reducible rfl)); simp only [Act.put, List.setIfInBounds_toArray, List.set_cons_zero, List.set_cons_succ])
      (refine pl_take (d := 66) (v := ?_) rfl rfl rfl ?_ ?_; rotate_left; (focus ((intro w' hb0 hw'; go_simp) <;> with_reducible rfl)); simp only [Act.put, List.setIfInBounds_toArray, List.set_cons_zero, List.set_cons_succ])
      (refine pl_take (d := 67) (v := ?_) rfl rfl rfl ?_ ?_; rotate_left; (focus ((intro w' hb0 hw'; go_simp) <;> with_reducible rfl)); simp only [Act.put, List.setIfInBounds_toArray, List.set_cons_zero, List.set_cons_succ])
      (refine pl_take (d := 68) (v := ?_) rfl rfl rfl ?_ ?_; rotate_left; (focus ((intro w' hb0 hw'; go_simp) <;> with_reducible rfl)); simp only [Act.put, List.setIfInBounds_toArray, List.set_cons_zero, List.set_cons_succ])
      (refine pl_take (d := 69) (v := ?_) rfl rfl rfl ?_ ?_; rotate_left; (focus ((intro w' hb0 hw'; go_simp) <;> with_reducible rfl)); simp only [Act.put, List.setIfInBounds_toArray, List.set_cons_zero, List.set_cons_succ])
      (refine pl_take (d := 70) (v := ?_) rfl rfl rfl ?_ ?_; rotate_left; (focus ((intro w' hb0 hw'; have hb0' : Below W0.heap.size W0 w' := hb0; have hx := conv_str w' _ _ _ c2 ((hT0).below hb0'); go_simp) <;> with_reducible rfl)); simp only [Act.put, List.setIfInBounds_toArray, List.set_cons_zero, List.set_cons_succ])
      (refine pl_take (d := 71) (v := ?_) rfl rfl rfl ?_ ?_; rotate_left; (focus ((intro w' hb0 hw'; go_simp) <;> with_reducible rfl)); simp only [Act.put, List.setIfInBounds_toArray, List.set_cons_zero, List.set_cons_succ])
      (refine pl_take (d := 72) (v := ?_) rfl rfl rfl ?_ ?_; rotate_left; (focus ((intro w' hb0 hw'; have hb0' : Below W0.heap.size W0 w' := hb0; have hx := conv_str w' _ _ _ e ((hM0).below hb0'); go_simp) <;> with_reducible rfl)); simp only [Act.put, List.setIfInBounds_toArray, List.set_cons_zero, List.set_cons_succ])
      (refine pl_take (d := 73) (v := ?_) rfl rfl rfl ?_ ?_; rotate_left; (focus ((intro w' hb0 hw'; go_simp) <;> with_reducible rfl)); simp only [Act.put, List.setIfInBounds_toArray, List.set_cons_zero, List.set_cons_succ])
      (refine pl_take (d := 74) (v := ?_) rfl rfl rfl ?_ ?_; rotate_left; (focus ((intro w' hb0 hw'; go_simp) <;> with_reducible rfl)); simp only [Act.put, List.setIfInBounds_toArray, List.set_cons_zero, List.set_cons_succ])
      (refine pl_take (d := 75) (v := ?_) rfl rfl rfl ?_ ?_; rotate_left; (focus ((intro w' hb0 hw'; go_simp) <;> with_reducible rfl)); simp only [Act.put, List.setIfInBounds_toArray, List.set_cons_zero, List.set_cons_succ])
      (refine pl_take (d := 76) (v := ?_) rfl rfl rfl ?_ ?_; rotate_left; (focus ((intro w' hb0 hw'; go_simp) <;> with_reducible rfl)); simp only [Act.put, List.setIfInBounds_toArray, List.set_cons_zero, List.set_cons_succ])
      (refine pl_take (d := 77) (v := ?_) rfl rfl rfl ?_ ?_; rotate_left; (focus ((intro w' hb0 hw'; go_simp) <;> with_reducible rfl)); simp only [Act.put, List.setIfInBounds_toArray, List.set_cons_zero, List.set_cons_succ])
      (refine pl_take (d := 78) (v := ?_) rfl rfl rfl ?_ ?_; rotate_left; (focus ((intro w' hb0 hw'; go_simp) <;> with_reducible rfl)); simp only [Act.put, List.setIfInBounds_toArray, List.set_cons_zero, List.set_cons_succ])
      (refine pl_take (d := 79) (v := ?_) rfl rfl rfl ?_ ?_; rotate_left; (focus ((intro w' hb0 hw'; go_simp) <;> with_reducible rfl)); simp only [Act.put, List.setIfInBounds_toArray, List.set_cons_zero, List.set_cons_succ])
      (refine pl_take (d := 80) (v := ?_) rfl rfl rfl ?_ ?_; rotate_left; (focus ((intro w' hb0 hw'; go_simp) <;> with_reducible rfl)); simp only [Act.put, List.setIfInBounds_toArray, List.set_cons_zero, List.set_cons_succ])
      (refine pl_take (d := 81) (v := ?_) rfl rfl rfl ?_ ?_; rotate_left; (focus ((intro w' hb0 hw'; go_simp) <;> with_reducible rfl)); simp only [Act.put, List.setIfInBounds_toArray, List.set_cons_zero, List.set_cons_succ])
      (refine pl_take (d := 82) (v := ?_) rfl rfl rfl ?_ ?_; rotate_left; (focus ((intro w' hb0 hw'; go_simp) <;> with_reducible rfl)); simp only [Act.put, List.setIfInBounds_toArray, List.set_cons_zero, List.set_cons_succ])
      (refine pl_take (d := 83) (v := ?_) rfl rfl rfl ?_ ?_; rotate_left; (focus ((intro w' hb0 hw'; go_simp) <;> with_reducible rfl)); simp only [Act.put, List.setIfInBounds_toArray, List.set_cons_zero, List.set_cons_succ])
      (refine pl_take (d := 84) (v := ?_) rfl rfl rfl ?_ ?_; rotate_left; (focus ((intro w' hb0 hw'; have hb0' : Below W0.heap.size W0 w' := hb0; have hx := conv_str w' _ _ _ c3 ((hP0).below hb0'); go_simp) <;> with_reducible rfl)); simp only [Act.put, List.setIfInBounds_toArray, List.set_cons_zero, List.set_cons_succ])
      (refine pl_take (d := 85) (v := ?_) rfl rfl rfl ?_ ?_; rotate_left; (focus ((intro w' hb0 hw'; go_simp) <;> with_reducible rfl)); simp only [Act.put, List.setIfInBounds_toArray, List.set_cons_zero, List.set_cons_succ])
      (refine pl_take (d := 86) (v := ?_) rfl rfl rfl ?_ ?_; rotate_left; (focus ((intro w' hb0 hw'; go_simp) <;> with_reducible rfl)); simp only [Act.put, List.setIfInBounds_toArray, List.set_cons_zero, List.set_cons_succ])
      (refine pl_take (d := 87) (v := ?_) rfl rfl rfl ?_ ?_; rotate_left; (focus ((intro w' hb0 hw'; go_simp) <;> with_reducible rfl)); simp only [Act.put, List.setIfInBounds_toArray, List.set_cons_zero, List.set_cons_succ])
      (refine pl_take (d := 88) (v := ?_) rfl rfl rfl ?_ ?_; rotate_left; (focus ((intro w' hb0 hw'; have hb0' : Below W0.heap.size W0 w' := hb0; have hx := conv_str w' _ _ _ c1 (((hO0.take hpm)).below hb0'); go_simp) <;> with_reducible rfl)); simp only [Act.put, List.setIfInBounds_toArray, List.set_cons_zero, List.set_cons_succ])
      (refine pl_take (d := 89) (v := ?_) rfl rfl rfl ?_ ?_; rotate_left; (focus ((intro w' hb0 hw'; go_simp) <;> with_reducible rfl)); simp only [Act.put, List.setIfInBounds_toArray, List.set_cons_zero, List.set_cons_succ])
      (refine pl_take (d := 90) (v := ?_) rfl rfl rfl ?_ ?_; rotate_left; (focus ((intro w' hb0 hw'; go_simp) <;> with_reducible rfl)); simp only [Act.put, List.setIfInBounds_toArray, List.set_cons_zero, List.set_cons_succ])
      (refine pl_take (d := 10) (v := ?_) rfl rfl rfl ?_ ?_; rotate_left; (focus ((intro w' hb0 hw'; go_simp) <;> with_reducible rfl)); simp only [Act.put, List.setIfInBounds_toArray, List.set_cons_zero, List.set_cons_succ])
      refine pl_end ?_
      go_wp2
      refine bodyPost_ret (v := .bool true) (by simp [results, Try.results6, go_sem]) rfl ⟨rfl, hb0'⟩
    · have hkm' : ¬ (msg.length : Int) < (k.toNat : Int) := by omega
      have hpm : k.toNat ≤ msg.length := by omega
      have hpe : k.toNat ≤ e := Nat.le_trans hpm HE.out
      have hpe' : (k.toNat : Int) ≤ (e : Int) := by omega
      have hpc : k.toNat ≤ c1 := Nat.le_trans hpm HC1.out.1
      have hpc' : (k.toNat : Int) ≤ (c1 : Int) := by omega
      have HMX3 : Hid ((msg.take k.toNat).length ≤ 1000000) := by show _ ≤ _; rw [List.length_take]; have := HMX.out; omega
      have HOV3 : Hid (¬ 4294967296 - ctr.toNat < ((msg.take k.toNat).length + 63) / 64) := over_take _ HOV.out
      go_wp2_with fail
      refine wp_region_plan none [] [] (.take 0 (.take 1 (.take 2 (.take 3 (.take 4 (.take 5 (.one 6 (.take 7 (.take 8 (.take 9 (.take 10 (.take 11 .done)))))))))))) (by kernel_rfl) (by kernel_rfl) (fun _ _ dd _ _ h => by cases dd <;> exact h) ?_
      intro W0 hW0
      have hb0' : Below w.heap.size w W0 := by rw [hW0]; exact HB.out.drew
      have hK0 : Reads W0 (some ⟨w.heap.size, 0, none⟩) 32 key := by rw [hW0]; exact HK.out.below (below_drew _)
      have hN0 : Reads W0 (some ⟨w.heap.size + 1, 0, none⟩) 12 nonce := by rw [hW0]; exact HN.out.below (below_drew _)
      have hM0 : Reads W0 om msg.length msg := by rw [hW0]; exact HM.out.below (below_drew _)
      have hO0 : Reads W0 o1 msg.length out := by rw [hW0]; exact HO.out.below (below_drew _)
      have hT0 : Reads W0 o2 msg.length msg := by rw [hW0]; exact HT.out.below (below_drew _)
      clear hW0 HK HN HM HB HO HT
      (refine pl_take (d := 53) (v := ?_) rfl rfl rfl ?_ ?_; rotate_left; (focus ((intro w' hb0 hw'; go_simp) <;> with_reducible rfl)); simp only [Act.put, List.setIfInBounds_toArray, List.set_cons_zero, List.set_cons_succ])
      (refine pl_take (d := 54) (v := ?_) rfl rfl rfl ?_ ?_; rotate_left; (focus ((intro w' hb0 hw'; go_simp) <;> with_reducible rfl)); simp only [Act.put, List.setIfInBounds_toArray, List.set_cons_zero, List.set_cons_succ])
      (refine pl_take (d := 55) (v := ?_) rfl rfl rfl ?_ ?_; rotate_left; (focus ((intro w' hb0 hw'; go_simp) <;> with_reducible rfl)); simp only [Act.put, List.setIfInBounds_toArray, List.set_cons_zero, List.set_cons_succ])
      (refine pl_take (d := 56) (v := ?_) rfl rfl rfl ?_ ?_; rotate_left; (focus ((intro w' hb0 hw'; go_simp) <;> with_reducible rfl)); simp only [Act.put, List.setIfInBounds_toArray, List.set_cons_zero, List.set_cons_succ])
      (refine pl_take (d := 57) (v := ?_) rfl rfl rfl ?_ ?_; rotate_left; (focus ((intro w' hb0 hw'; go_simp) <;> with_reducible rfl)); simp only [Act.put, List.setIfInBounds_toArray, List.set_cons_zero, List.set_cons_succ])
      (refine pl_take (d := 58) (v := ?_) rfl rfl rfl ?_ ?_; rotate_left; (focus ((intro w' hb0 hw'; go_simp) <;> with_reducible rfl)); simp only [Act.put, List.setIfInBounds_toArray, List.set_cons_zero, List.set_cons_succ])
      refine pl_one rfl rfl (fun K hK => ?_)
      go_simp
      refine (xor12 key nonce ctr (msg.take (k.toNat)) W0 (some ⟨w.heap.size, 0, none⟩) (some ⟨w.heap.size + 1, 0, none⟩) om 32 32 12 12 (k.toNat) e hK0 hN0 (hM0.take hpm) HLK.out HLN.out (Nat.le_refl _) (Nat.le_refl _) HMX3.out HOV3.out).mono ?_
      rintro r W1 ⟨o3, n3, c3, rfl, hr3, hnc3, hcm3, hb1⟩
      refine hK _ _ (hb1 : Rel none W0 W1) ?_
      have hM1 := hM0.below hb1; have hO1 := hO0.below hb1; have hT1 := hT0.below hb1; have hb1' := below_step hb0' hb1
      clear hK hK0 hN0 hM0 hO0 hT0 hb0' hb1
      (refine pl_take (d := 52) (v := ?_) rfl rfl rfl ?_ ?_; rotate_left; (focus ((intro w' hb0 hw'; go_simp) <;> with_reducible rfl)); simp only [Act.put, List.setIfInBounds_toArray, List.set_cons_zero, List.set_cons_succ])
      (refine pl_take (d := 60) (v := ?_) rfl rfl rfl ?_ ?_; rotate_left; (focus ((intro w' hb0 hw'; go_simp) <;> with_reducible rfl)); simp only [Act.put, List.setIfInBounds_toArray, List.set_cons_zero, List.set_cons_succ])
      (refine pl_take (d := 61) (v := ?_) rfl rfl rfl ?_ ?_; rotate_left; (focus ((intro w' hb0 hw'; go_simp) <;> with_reducible rfl)); simp only [Act.put, List.setIfInBounds_toArray, List.set_cons_zero, List.set_cons_succ])
      (refine pl_take (d := 16) (v := ?_) rfl rfl rfl ?_ ?_; rotate_left; (focus ((intro w' hb0 hw'; go_simp) <;> with_reducible rfl)); simp only [Act.put, List.setIfInBounds_toArray, List.set_cons_zero, List.set_cons_succ])
      (refine pl_take (d := 17) (v := ?_) rfl rfl rfl ?_ ?_; rotate_left; (focus ((intro w' hb0 hw'; go_simp) <;> with_reducible rfl)); simp only [Act.put, List.setIfInBounds_toArray, List.set_cons_zero, List.set_cons_succ])
      refine pl_end ?_
      rw [xorM_take _ _ _ _ _ hpm, HOUT.out] at hr3
      obtain rfl : n3 = k.toNat := by have := hr3.len; rw [List.length_take, HOL.out] at this; omega
      have HM := Lib.hid hM1; have HB := Lib.hid hb1'; have HO := Lib.hid hO1; have HT := Lib.hid hT1; have HP := Lib.hid hr3
      clear hM1 hb1' hO1 hT1 hr3 hnc3 hcm3
      go_wp2_with fail
      refine wp_region_plan none [] [] (.take 0 (.take 1 (.take 2 (.take 3 (.take 4 (.take 5 (.take 6 (.take 7 (.take 8 (.take 9 (.take 10 (.take 11 (.take 12 (.take 13 (.take 14 (.take 15 (.take 16 (.take 17 (.take 18 (.take 19 (.take 20 (.take 21 (.take 22 (.take 23 (.take 24 (.take 25 (.take 26 (.take 27 (.take 28 (.take 29 .done)))))))))))))))))))))))))))))) (by kernel_rfl) (by kernel_rfl) (fun _ _ dd _ _ h => by cases dd <;> exact h) ?_
      intro W0 hW0
      have hb0' : Below w.heap.size w W0 := by rw [hW0]; exact HB.out.drew
      have hM0 : Reads W0 om msg.length msg := by rw [hW0]; exact HM.out.below (below_drew _)
      have hO0 : Reads W0 o1 msg.length out := by rw [hW0]; exact HO.out.below (below_drew _)
      have hT0 : Reads W0 o2 msg.length msg := by rw [hW0]; exact HT.out.below (below_drew _)
      have hP0 : Reads W0 o3 (k.toNat) (out.take (k.toNat)) := by rw [hW0]; exact HP.out.below (below_drew _)
      clear hW0 HM HB HO HT HP
      (refine pl_take (d := 62) (v := ?_) rfl rfl rfl ?_ ?_; rotate_left; (focus ((intro w' hb0 hw'; go_simp) <;> with_reducible rfl)); simp only [Act.put, List.setIfInBounds_toArray, List.set_cons_zero, List.set_cons_succ])
      (refine pl_take (d := 63) (v := ?_) rfl rfl rfl ?_ ?_; rotate_left; (focus ((intro w' hb0 hw'; go_simp) <;> with_reducible rfl)); simp only [Act.put, List.setIfInBounds_toArray, List.set_cons_zero, List.set_cons_succ])
      (refine pl_take (d := 64) (v := ?_) rfl rfl rfl ?_ ?_; rotate_left; (focus ((intro w' hb0 hw'; go_simp) <;> with_reducible rfl)); simp only [Act.put, List.setIfInBounds_toArray, List.set_cons_zero, List.set_cons_succ])
      (refine pl_take (d := 65) (v := ?_) rfl rfl rfl ?_ ?_; rotate_left; (focus ((intro w' hb0 hw'; go_simp) <;> with_reducible rfl)); simp only [Act.put, List.setIfInBounds_toArray, List.set_cons_zero, List.set_cons_succ])
      (refine pl_take (d := 66) (v := ?_) rfl rfl rfl ?_ ?_; rotate_left; (focus ((intro w' hb0 hw'; go_simp) <;> with_reducible rfl)); simp only [Act.put, List.setIfInBounds_toArray, List.set_cons_zero, List.set_cons_succ])
      (refine pl_take (d := 67) (v := ?_) rfl rfl rfl ?_ ?_; rotate_left; (focus ((intro w' hb0 hw'; go_simp) <;> with_reducible rfl)); simp only [Act.put, List.setIfInBounds_toArray, List.set_cons_zero, List.set_cons_succ])
      (refine pl_take (d := 68) (v := ?_) rfl rfl rfl ?_ ?_; rotate_left; (focus ((intro w' hb0 hw'; go_simp) <;> with_reducible rfl)); simp only [Act.put, List.setIfInBounds_toArray, List.set_cons_zero, List.set_cons_succ])
      (refine pl_take (d := 69) (v := ?_) rfl rfl rfl ?_ ?_; rotate_left; (focus ((intro w' hb0 hw'; go_simp) <;> with_reducible rfl)); simp only [Act.put, List.setIfInBounds_toArray, List.set_cons_zero, List.set_cons_succ])
      (refine pl_take (d := 70) (v := ?_) rfl rfl rfl ?_ ?_; rotate_left; (focus ((intro w' hb0 hw'; have hb0' : Below W0.heap.size W0 w' := hb0; have hx := conv_str w' _ _ _ c2 ((hT0).below hb0'); go_simp) <;> with_reducible rfl)); simp only [Act.put, List.setIfInBounds_toArray, List.set_cons_zero, List.set_cons_succ])
      (refine pl_take (d := 71) (v := ?_) rfl rfl rfl ?_ ?_; rotate_left; (focus ((intro w' hb0 hw'; go_simp) <;> with_reducible rfl)); simp only [Act.put, List.setIfInBounds_toArray, List.set_cons_zero, List.set_cons_succ])
      (refine pl_take (d := 72) (v := ?_) rfl rfl rfl ?_ ?_; rotate_left; (focus ((intro w' hb0 hw'; have hb0' : Below W0.heap.size W0 w' := hb0; have hx := conv_str w' _ _ _ e ((hM0).below hb0'); go_simp) <;> with_reducible rfl)); simp only [Act.put, List.setIfInBounds_toArray, List.set_cons_zero, List.set_cons_succ])
      (refine pl_take (d := 73) (v := ?_) rfl rfl rfl ?_ ?_; rotate_left; (focus ((intro w' hb0 hw'; go_simp) <;> with_reducible rfl)); simp only [Act.put, List.setIfInBounds_toArray, List.set_cons_zero, List.set_cons_succ])
      (refine pl_take (d := 74) (v := ?_) rfl rfl rfl ?_ ?_; rotate_left; (focus ((intro w' hb0 hw'; go_simp) <;> with_reducible rfl)); simp only [Act.put, List.setIfInBounds_toArray, List.set_cons_zero, List.set_cons_succ])
      (refine pl_take (d := 75) (v := ?_) rfl rfl rfl ?_ ?_; rotate_left; (focus ((intro w' hb0 hw'; go_simp) <;> with_reducible rfl)); simp only [Act.put, List.setIfInBounds_toArray, List.set_cons_zero, List.set_cons_succ])
      (refine pl_take (d := 76) (v := ?_) rfl rfl rfl ?_ ?_; rotate_left; (focus ((intro w' hb0 hw'; go_simp) <;> with_reducible rfl)); simp only [Act.put, List.setIfInBounds_toArray, List.set_cons_zero, List.set_cons_succ])
      (refine pl_take (d := 77) (v := ?_) rfl rfl rfl ?_ ?_; rotate_left; (focus ((intro w' hb0 hw'; go_simp) <;> with_reducible rfl)); simp only [Act.put, List.setIfInBounds_toArray, List.set_cons_zero, List.set_cons_succ])
      (refine pl_take (d := 78) (v := ?_) rfl rfl rfl ?_ ?_; rotate_left; (focus ((intro w' hb0 hw'; go_simp) <;> with_reducible rfl)); simp only [Act.put, List.setIfInBounds_toArray, List.set_cons_zero, List.set_cons_succ])
      (refine pl_take (d := 79) (v := ?_) rfl rfl rfl ?_ ?_; rotate_left; (focus ((intro w' hb0 hw'; go_simp) <;> with_reducible rfl)); simp only [Act.put, List.setIfInBounds_toArray, List.set_cons_zero, List.set_cons_succ])
      (refine pl_take (d := 80) (v := ?_) rfl rfl rfl ?_ ?_; rotate_left; (focus ((intro w' hb0 hw'; go_simp) <;> with_reducible rfl)); simp only [Act.put, List.setIfInBounds_toArray, List.set_cons_zero, List.set_cons_succ])
      (refine pl_take (d := 81) (v := ?_) rfl rfl rfl ?_ ?_; rotate_left; (focus ((intro w' hb0 hw'; go_simp) <;> with_reducible rfl)); simp only [Act.put, List.setIfInBounds_toArray, List.set_cons_zero, List.set_cons_succ])
      (refine pl_take (d := 82) (v := ?_) rfl rfl rfl ?_ ?_; rotate_left; (focus ((intro w' hb0 hw'; go_simp) <;> with_reducible rfl)); simp only [Act.put, List.setIfInBounds_toArray, List.set_cons_zero, List.set_cons_succ])
      (refine pl_take (d := 83) (v := ?_) rfl rfl rfl ?_ ?_; rotate_left; (focus ((intro w' hb0 hw'; go_simp) <;> with_reducible rfl)); simp only [Act.put, List.setIfInBounds_toArray, List.set_cons_zero, List.set_cons_succ])
      (refine pl_take (d := 84) (v := ?_) rfl rfl rfl ?_ ?_; rotate_left; (focus ((intro w' hb0 hw'; have hb0' : Below W0.heap.size W0 w' := hb0; have hx := conv_str w' _ _ _ c3 ((hP0).below hb0'); go_simp) <;> with_reducible rfl)); simp only [Act.put, List.setIfInBounds_toArray, List.set_cons_zero, List.set_cons_succ])
      (refine pl_take (d := 85) (v := ?_) rfl rfl rfl ?_ ?_; rotate_left; (focus ((intro w' hb0 hw'; go_simp) <;> with_reducible rfl)); simp only [Act.put, List.setIfInBounds_toArray, List.set_cons_zero, List.set_cons_succ])
      (refine pl_take (d := 86) (v := ?_) rfl rfl rfl ?_ ?_; rotate_left; (focus ((intro w' hb0 hw'; go_simp) <;> with_reducible rfl)); simp only [Act.put, List.setIfInBounds_toArray, List.set_cons_zero, List.set_cons_succ])
      (refine pl_take (d := 87) (v := ?_) rfl rfl rfl ?_ ?_; rotate_left; (focus ((intro w' hb0 hw'; go_simp) <;> with_reducible rfl)); simp only [Act.put, List.setIfInBounds_toArray, List.set_cons_zero, List.set_cons_succ])
      (refine pl_take (d := 88) (v := ?_) rfl rfl rfl ?_ ?_; rotate_left; (focus ((intro w' hb0 hw'; have hb0' : Below W0.heap.size W0 w' := hb0; have hx := conv_str w' _ _ _ c1 (((hO0.take hpm)).below hb0'); go_simp) <;> with_reducible rfl)); simp only [Act.put, List.setIfInBounds_toArray, List.set_cons_zero, List.set_cons_succ])
      (refine pl_take (d := 89) (v := ?_) rfl rfl rfl ?_ ?_; rotate_left; (focus ((intro w' hb0 hw'; go_simp) <;> with_reducible rfl)); simp only [Act.put, List.setIfInBounds_toArray, List.set_cons_zero, List.set_cons_succ])
      (refine pl_take (d := 90) (v := ?_) rfl rfl rfl ?_ ?_; rotate_left; (focus ((intro w' hb0 hw'; go_simp) <;> with_reducible rfl)); simp only [Act.put, List.setIfInBounds_toArray, List.set_cons_zero, List.set_cons_succ])
      (refine pl_take (d := 10) (v := ?_) rfl rfl rfl ?_ ?_; rotate_left; (focus ((intro w' hb0 hw'; go_simp) <;> with_reducible rfl)); simp only [Act.put, List.setIfInBounds_toArray, List.set_cons_zero, List.set_cons_succ])
      refine pl_end ?_
      go_wp2
      refine bodyPost_ret (v := .bool true) (by simp [results, Try.results6, go_sem]) rfl ⟨rfl, hb0'⟩
end Go.Proofs.Ytliemmdadfpdjaa
