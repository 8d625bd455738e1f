/-
  The walks of the laws EqualTells and EqualBack: each returns true and leaves what was there as it was.
-/
import Derived.Test.YtgpaekmkkjbilaaWd
import Derived.Test.YtgpaekmkkjbilaaEager
namespace Go.Proofs.Ytgpaekmkkjbilaa
open Go.RowKit Go.Proofs.Eager
set_option maxHeartbeats 2000000
set_option linter.unusedVariables false
set_option linter.unusedSimpArgs false

set_option maxRecDepth 100000 in
theorem tells_small (oa ob : Option Addr) (n m : Nat) (a b : List UInt8) (c d : Nat) (first : Bool) (w : World) (ha : Reads w oa n a) (hb : Reads w ob m b) (hla : n ≤ 3000) (hlb : m ≤ 3000) :
    Calls Try.prog 3 #[.slice oa n c, .slice ob m d, .bool first] w fun e w' => e = .returned (.bool true) ∧ Below w.heap.size w w' := by
  have HA : Hid (∀ W, Below w.heap.size w W → Reads W oa n a) := fun W h => ha.below h
  have HB : Hid (∀ W, Below w.heap.size w W → Reads W ob m b) := fun W h => hb.below h
  have hla1 : n ≤ 140737488351232 := by omega
  have hlb1 : m ≤ 140737488351232 := by omega
  have hla2 : ¬ (3000 : Int) < (n : Int) := by omega
  have hlb2 : ¬ (3000 : Int) < (m : Int) := by omega
  have HU : Hid (Try.prog.underlying 22 = some (.slice 5) ∧ Try.prog.underlying 5 = some (.int .u8) ∧ Try.prog.underlying 9 = some .string) := ⟨Try.underlying22, Try.underlying5, Try.underlying9⟩
  clear ha hb
  have h0 : Below w.heap.size w w.drew := below_drew w
  go_enter Try.func3, Try.ntmps3
  go_wp2_with fail
  refine wp_region_seq [(0, true), (1, true), (3, true), (4, true), (2, false), (5, false), (6, true), (7, true), (8, true), (10, true), (9, false), (11, false), (12, true), (13, true), (14, true), (15, true), (16, true), (17, true), (20, true), (21, true), (22, true), (18, false), (19, true), (23, false), (24, true), (25, true), (26, true), (27, true), (28, true), (29, true), (32, true), (33, true), (30, false), (31, true), (34, false), (35, true), (36, true), (37, true), (38, true), (39, false), (40, true), (41, true)] (by kernel_rfl) (by kernel_rfl) (fun _ _ dd _ _ h => by cases dd <;> exact h) ?_
  (refine seq_take (d := 16) (v := ?_) rfl rfl rfl ?_ ?_; rotate_left; (focus ((intro w' hw'; go_simp) <;> with_reducible rfl)); simp only [Act.put, List.setIfInBounds_toArray, List.set_cons_zero, List.set_cons_succ])
  (refine seq_take (d := 17) (v := ?_) rfl rfl rfl ?_ ?_; rotate_left; (focus ((intro w' hw'; go_simp) <;> with_reducible rfl)); simp only [Act.put, List.setIfInBounds_toArray, List.set_cons_zero, List.set_cons_succ])
  (refine seq_take (d := 19) (v := ?_) rfl rfl rfl ?_ ?_; rotate_left; (focus ((intro w' hw'; go_simp) <;> with_reducible rfl)); simp only [Act.put, List.setIfInBounds_toArray, List.set_cons_zero, List.set_cons_succ])
  (refine seq_take (d := 20) (v := ?_) rfl rfl rfl ?_ ?_; rotate_left; (focus ((intro w' hw'; go_simp) <;> with_reducible rfl)); simp only [Act.put, List.setIfInBounds_toArray, List.set_cons_zero, List.set_cons_succ])
  refine seq_do rfl rfl (fun K hK => ?_)
  go_simp
  refine (bytes_r _ _ _ _ _ _ _ _ _ (HA.out _ (by assumption)) (HB.out _ (by assumption)) hla1 hlb1).mono ?_
  rintro e w1 ⟨rfl, hb1⟩
  have h1 := below_step (W := w) (by assumption) hb1
  refine hK _ _ hb1 ?_
  clear hb1 hK K
  refine seq_do rfl rfl (fun K hK => ?_)
  go_simp
  refine (refBytes_r _ _ _ _ _ _ _ _ _ (HA.out _ (by assumption)) (HB.out _ (by assumption)) hla1 hlb1).mono ?_
  rintro e w2 ⟨rfl, n2, rfl⟩
  have h2 := below_drewN (B := w.heap.size) (a := w) (by assumption) n2
  refine hK _ _ (below_drewN (Below.refl _ _) n2) ?_
  clear hK K
  (refine seq_take (d := 22) (v := ?_) rfl rfl rfl ?_ ?_; rotate_left; (focus ((intro w' hw'; go_simp) <;> with_reducible rfl)); simp only [Act.put, List.setIfInBounds_toArray, List.set_cons_zero, List.set_cons_succ])
  (refine seq_take (d := 23) (v := ?_) rfl rfl rfl ?_ ?_; rotate_left; (focus ((intro w' hw'; go_simp) <;> with_reducible rfl)); simp only [Act.put, List.setIfInBounds_toArray, List.set_cons_zero, List.set_cons_succ])
  (refine seq_take (d := 24) (v := ?_) rfl rfl rfl ?_ ?_; rotate_left; (focus ((intro w' hw'; go_simp) <;> with_reducible rfl)); simp only [Act.put, List.setIfInBounds_toArray, List.set_cons_zero, List.set_cons_succ])
  (refine seq_take (d := 26) (v := ?_) rfl rfl rfl ?_ ?_; rotate_left; (focus ((intro w' hw'; go_simp) <;> with_reducible rfl)); simp only [Act.put, List.setIfInBounds_toArray, List.set_cons_zero, List.set_cons_succ])
  refine seq_do rfl rfl (fun K hK => ?_)
  go_simp
  refine (zero_r _ _ _ _ _ (HA.out _ (by assumption)) hla1).mono ?_
  rintro e w2 ⟨rfl, rfl⟩
  refine hK _ _ (Below.refl _ _) ?_
  clear hK K
  refine seq_do rfl rfl (fun K hK => ?_)
  go_simp
  refine (refZero_r _ _ _ _ _ (HA.out _ (by assumption)) hla1).mono ?_
  rintro e w2 ⟨rfl, rfl⟩
  refine hK _ _ (Below.refl _ _) ?_
  clear hK K
  (refine seq_take (d := 28) (v := ?_) rfl rfl rfl ?_ ?_; rotate_left; (focus ((intro w' hw'; go_simp) <;> with_reducible rfl)); simp only [Act.put, List.setIfInBounds_toArray, List.set_cons_zero, List.set_cons_succ])
  (refine seq_take (d := 29) (v := ?_) rfl rfl rfl ?_ ?_; rotate_left; (focus ((intro w' hw'; go_simp) <;> with_reducible rfl)); simp only [Act.put, List.setIfInBounds_toArray, List.set_cons_zero, List.set_cons_succ])
  (refine seq_take (d := 30) (v := ?_) rfl rfl rfl ?_ ?_; rotate_left; (focus ((intro w' hw'; go_simp) <;> with_reducible rfl)); simp only [Act.put, List.setIfInBounds_toArray, List.set_cons_zero, List.set_cons_succ])
  (refine seq_take (d := 31) (v := ?_) rfl rfl rfl ?_ ?_; rotate_left; (focus ((intro w' hw'; go_simp) <;> with_reducible rfl)); simp only [Act.put, List.setIfInBounds_toArray, List.set_cons_zero, List.set_cons_succ])
  (refine seq_take (d := 32) (v := ?_) rfl rfl rfl ?_ ?_; rotate_left; (focus ((intro w' hw'; go_simp) <;> with_reducible rfl)); simp only [Act.put, List.setIfInBounds_toArray, List.set_cons_zero, List.set_cons_succ])
  (refine seq_take (d := 33) (v := ?_) rfl rfl rfl ?_ ?_; rotate_left; (focus ((intro w' hw'; go_simp) <;> with_reducible rfl)); simp only [Act.put, List.setIfInBounds_toArray, List.set_cons_zero, List.set_cons_succ])
  (refine seq_take (d := 36) (v := ?_) rfl rfl rfl ?_ ?_; rotate_left; (focus ((intro w' hw'; go_simp) <;> with_reducible rfl)); simp only [Act.put, List.setIfInBounds_toArray, List.set_cons_zero, List.set_cons_succ])
  (refine seq_take (d := 37) (v := ?_) rfl rfl rfl ?_ ?_; rotate_left; (focus ((intro w' hw'; go_simp) <;> with_reducible rfl)); simp only [Act.put, List.setIfInBounds_toArray, List.set_cons_zero, List.set_cons_succ])
  (refine seq_take (d := 38) (v := ?_) rfl rfl rfl ?_ ?_; rotate_left; (focus ((intro w' hw'; go_simp) <;> with_reducible rfl)); simp only [Act.put, List.setIfInBounds_toArray, List.set_cons_zero, List.set_cons_succ])
  refine seq_do rfl rfl (fun K hK => ?_)
  go_simp
  refine (pick_r _ _ _ _ _ _ _ _ _ _ (HA.out _ (by assumption)) (HB.out _ (by assumption)) hla1 hlb1).mono ?_
  rintro e w3 ⟨oa3, n3, c3, rfl, hr3, hb3⟩
  have h3 := below_step (W := w) (by assumption) hb3
  have hcv3 := later_convert (P := Try.prog) HU c3 hr3
  refine hK _ _ hb3 ?_
  clear hb3 hr3 hK K
  have r3 := Below.refl w3.heap.size w3
  (refine seq_take (d := 35) (v := ?_) rfl rfl rfl ?_ ?_; rotate_left; (focus ((intro w' hw'; go_simp) <;> with_reducible rfl)); simp only [Act.put, List.setIfInBounds_toArray, List.set_cons_zero, List.set_cons_succ])
  refine seq_do rfl rfl (fun K hK => ?_)
  go_simp
  refine (refPick_r _ _ _ _ _ _ _ _ _ _ (HA.out _ (by assumption)) (HB.out _ (by assumption)) hla1 hlb1).mono ?_
  rintro e w4 ⟨oa4, n4, c4, rfl, hr4, hb4⟩
  have h4 := below_step (W := w) (by assumption) hb4
  have hcv4 := later_convert (P := Try.prog) HU c4 hr4
  refine hK _ _ hb4 ?_
  clear hb4 hr4 hK K
  have r4 := Below.refl w4.heap.size w4
  clear r3
  (refine seq_take (d := 40) (v := ?_) rfl rfl rfl ?_ ?_; rotate_left; (focus ((intro w' hw'; go_simp) <;> with_reducible rfl)); simp only [Act.put, List.setIfInBounds_toArray, List.set_cons_zero, List.set_cons_succ])
  (refine seq_take (d := 41) (v := ?_) rfl rfl rfl ?_ ?_; rotate_left; (focus ((intro w' hw'; go_simp) <;> with_reducible rfl)); simp only [Act.put, List.setIfInBounds_toArray, List.set_cons_zero, List.set_cons_succ])
  (refine seq_take (d := 42) (v := ?_) rfl rfl rfl ?_ ?_; rotate_left; (focus ((intro w' hw'; go_simp) <;> with_reducible rfl)); simp only [Act.put, List.setIfInBounds_toArray, List.set_cons_zero, List.set_cons_succ])
  (refine seq_take (d := 43) (v := ?_) rfl rfl rfl ?_ ?_; rotate_left; (focus ((intro w' hw'; go_simp) <;> with_reducible rfl)); simp only [Act.put, List.setIfInBounds_toArray, List.set_cons_zero, List.set_cons_succ])
  (refine seq_take (d := 44) (v := ?_) rfl rfl rfl ?_ ?_; rotate_left; (focus ((intro w' hw'; go_simp) <;> with_reducible rfl)); simp only [Act.put, List.setIfInBounds_toArray, List.set_cons_zero, List.set_cons_succ])
  (refine seq_take (d := 45) (v := ?_) rfl rfl rfl ?_ ?_; rotate_left; (focus ((intro w' hw'; go_simp) <;> with_reducible rfl)); simp only [Act.put, List.setIfInBounds_toArray, List.set_cons_zero, List.set_cons_succ])
  (refine seq_take (d := 48) (v := ?_) rfl rfl rfl ?_ ?_; rotate_left; (focus ((intro w' hw'; go_simp) <;> with_reducible rfl)); simp only [Act.put, List.setIfInBounds_toArray, List.set_cons_zero, List.set_cons_succ])
  (refine seq_take (d := 49) (v := ?_) rfl rfl rfl ?_ ?_; rotate_left; (focus ((intro w' hw'; go_simp) <;> with_reducible rfl)); simp only [Act.put, List.setIfInBounds_toArray, List.set_cons_zero, List.set_cons_succ])
  refine seq_do rfl rfl (fun K hK => ?_)
  go_simp
  clear hcv3 hcv4
  refine (xor_r _ _ _ _ _ _ _ _ _ (HA.out _ (by assumption)) (HB.out _ (by assumption)) hla1 hlb1).mono ?_
  rintro e w5 ⟨oa5, n5, c5, rfl, hr5, hb5⟩
  have h5 := below_step (W := w) (by assumption) hb5
  have hcv5 := later_convert (P := Try.prog) HU c5 hr5
  refine hK _ _ hb5 ?_
  clear hb5 hr5 hK K
  have r5 := Below.refl w5.heap.size w5
  (refine seq_take (d := 47) (v := ?_) rfl rfl rfl ?_ ?_; rotate_left; (focus ((intro w' hw'; go_simp) <;> with_reducible rfl)); simp only [Act.put, List.setIfInBounds_toArray, List.set_cons_zero, List.set_cons_succ])
  refine seq_do rfl rfl (fun K hK => ?_)
  go_simp
  refine (refXor_r _ _ _ _ _ _ _ _ _ (HA.out _ (by assumption)) (HB.out _ (by assumption)) hla1 hlb1).mono ?_
  rintro e w6 ⟨oa6, n6, c6, rfl, hr6, hb6⟩
  have h6 := below_step (W := w) (by assumption) hb6
  have hcv6 := later_convert (P := Try.prog) HU c6 hr6
  refine hK _ _ hb6 ?_
  clear hb6 hr6 hK K
  have r6 := Below.refl w6.heap.size w6
  (refine seq_take (d := 51) (v := ?_) rfl rfl rfl ?_ ?_; rotate_left; (focus ((intro w' hw'; go_simp) <;> with_reducible rfl)); simp only [Act.put, List.setIfInBounds_toArray, List.set_cons_zero, List.set_cons_succ])
  (refine seq_take (d := 52) (v := ?_) rfl rfl rfl ?_ ?_; rotate_left; (focus ((intro w' hw'; go_simp) <;> with_reducible rfl)); simp only [Act.put, List.setIfInBounds_toArray, List.set_cons_zero, List.set_cons_succ])
  (refine seq_take (d := 53) (v := ?_) rfl rfl rfl ?_ ?_; rotate_left; (focus ((intro w' hw'; go_simp) <;> with_reducible rfl)); simp only [Act.put, List.setIfInBounds_toArray, List.set_cons_zero, List.set_cons_succ])
  (refine seq_take (d := 54) (v := ?_) rfl rfl rfl ?_ ?_; rotate_left; (focus ((intro w' hw'; go_simp) <;> with_reducible rfl)); simp only [Act.put, List.setIfInBounds_toArray, List.set_cons_zero, List.set_cons_succ])
  refine seq_do rfl rfl (fun K hK => ?_)
  go_simp
  clear hcv5 hcv6
  refine (works_any _).mono ?_
  rintro e w7 ⟨rfl, hb7⟩
  have h7 := below_step (W := w) (by assumption) hb7
  refine hK _ _ hb7 ?_
  clear hb7 hK K
  (refine seq_take (d := 56) (v := ?_) rfl rfl rfl ?_ ?_; rotate_left; (focus ((intro w' hw'; go_simp) <;> with_reducible rfl)); simp only [Act.put, List.setIfInBounds_toArray, List.set_cons_zero, List.set_cons_succ])
  (refine seq_take (d := 6) (v := ?_) rfl rfl rfl ?_ ?_; rotate_left; (focus ((intro w' hw'; go_simp) <;> with_reducible rfl)); simp only [Act.put, List.setIfInBounds_toArray, List.set_cons_zero, List.set_cons_succ])
  refine seq_end ?_
  go_wp2
  go_ret
  exact ⟨rfl, h7⟩

theorem tells_great (oa ob : Option Addr) (n m : Nat) (c d : Nat) (first : Bool) (w : World) (hl : 3000 < n ∨ 3000 < m) :
    Calls Try.prog 3 #[.slice oa n c, .slice ob m d, .bool first] w fun e w' => e = .returned (.bool true) ∧ Below w.heap.size w w' := by
  by_cases h1 : 3000 < n
  · have h2 : (3000 : Int) < (n : Int) := by omega
    clear hl h1
    go_enter Try.func3, Try.ntmps3
    go_wp2_with (go_at_call 6; refine (works_any _).mono ?_; rintro e w1 ⟨rfl, hb1⟩)
    go_ret
    exact ⟨rfl, hb1⟩
  · have h3 : ¬ (3000 : Int) < (n : Int) := by omega
    have h2 : (3000 : Int) < (m : Int) := by omega
    clear hl h1
    go_enter Try.func3, Try.ntmps3
    go_wp2_with (go_at_call 6; refine (works_any _).mono ?_; rintro e w1 ⟨rfl, hb1⟩)
    go_ret
    exact ⟨rfl, hb1⟩

theorem tells_any (oa ob : Option Addr) (n m : Nat) (a b : List UInt8) (c d : Nat) (first : Bool) (w : World) (ha : Reads w oa n a) (hb : Reads w ob m b) :
    Calls Try.prog 3 #[.slice oa n c, .slice ob m d, .bool first] w fun e w' => e = .returned (.bool true) ∧ Below w.heap.size w w' := by
  by_cases h : 3000 < n ∨ 3000 < m
  · exact tells_great oa ob n m c d first w h
  · exact tells_small oa ob n m a b c d first w ha hb (by omega) (by omega)

theorem Reads.take {w : World} {oa : Option Addr} {n : Nat} {l : List UInt8} (h : Reads w oa n l) (k : Nat) (hk : k ≤ n) : Reads w oa k (l.take k) := by
  refine ⟨by rw [List.length_take, ← h.len]; omega, fun i hi => ?_⟩
  have hi' : i < k := by simp at hi; omega
  obtain ⟨b, o, e, hc⟩ := h.cells i (by rw [List.length_map, ← h.len]; omega)
  refine ⟨b, o, e, ?_⟩
  rw [hc, List.map_take, List.getElem?_take, if_pos hi']

theorem xor_back (a b : List UInt8) : xorL (xorL a b) (a.take (min a.length b.length)) = b.take (min a.length b.length) := by
  apply List.ext_getElem
  · simp [xorL]
  · intro i h1 h2
    simp [xorL] at h1 h2 ⊢
    rw [UInt8.xor_comm (a[i]), UInt8.xor_assoc]
    simp
theorem xor_back' (a b : List UInt8) : xorL (xorL a b) (b.take (min a.length b.length)) = a.take (min a.length b.length) := by
  apply List.ext_getElem
  · simp [xorL]
  · intro i h1 h2
    simp [xorL] at h1 h2 ⊢
    rw [UInt8.xor_assoc]
    simp


set_option maxRecDepth 100000 in
theorem back_eq (oa ob : Option Addr) (n m : Nat) (a b : List UInt8) (c d : Nat) (w : World) (ha : Reads w oa n a) (hb : Reads w ob m b) (hla : n ≤ 3000) (hlb : m ≤ 3000) (hnc : n ≤ c) (hmd : m ≤ d) (he : n = m) :
    Calls Try.prog 4 #[.slice oa n c, .slice ob m d] w fun e w' => e = .returned (.bool true) ∧ Below w.heap.size w w' := by
  have HA : Hid (∀ W, Below w.heap.size w W → Reads W oa n a) := fun W h => ha.below h
  have HB : Hid (∀ W, Below w.heap.size w W → Reads W ob m b) := fun W h => hb.below h
  have HAk : Hid (∀ W, Below w.heap.size w W → Reads W oa n (a.take n)) := fun W h => (ha.below h).take n (by omega)
  have HBk : Hid (∀ W, Below w.heap.size w W → Reads W ob n (b.take n)) := fun W h => (hb.below h).take n (by omega)
  have hla1 : n ≤ 140737488351232 := by omega
  have hlb1 : m ≤ 140737488351232 := by omega
  have hk1 : n ≤ 140737488351232 := by omega
  have hla2 : ¬ (3000 : Int) < (n : Int) := by omega
  have hlb2 : ¬ (3000 : Int) < (m : Int) := by omega
  have hkc : n ≤ c := by omega
  have hkd : n ≤ d := by omega
  have HU : Hid (Try.prog.underlying 22 = some (.slice 5) ∧ Try.prog.underlying 5 = some (.int .u8) ∧ Try.prog.underlying 9 = some .string) := ⟨Try.underlying22, Try.underlying5, Try.underlying9⟩
  have HM : Hid (xorL (xorL a b) (a.take n) = b.take n ∧ xorL (xorL a b) (b.take n) = a.take n) := by
    have e : n = min a.length b.length := by rw [← ha.len, ← hb.len]; omega
    rw [e]; exact ⟨xor_back a b, xor_back' a b⟩
  have HZ : Hid (zeroL (xorL a b) = decide (a = b)) := xorL_zero a b (by rw [← ha.len, ← hb.len]; exact he)
  clear ha hb
  have hnm1 : ((n : Int) == (m : Int)) = true := by rw [beq_iff_eq]; omega
  have hmin : n ≤ m := by omega
  clear he
  go_enter Try.func4, Try.ntmps4
  go_wp2_with fail
  refine (works_any _).mono ?_
  rintro e w1 ⟨rfl, h1⟩
  go_wp2_with fail
  refine (xor_r _ _ _ _ _ _ _ _ _ (HA.out _ (by assumption)) (HB.out _ (by assumption)) hla1 hlb1).mono ?_
  rintro e w2 ⟨ox, nx, cx, rfl, hx, hb2⟩
  have h2 := below_step (W := w) (by assumption) hb2
  have hxl : nx ≤ 140737488351232 := by rw [hx.len, xorL_length]; have := (HA.out _ (Below.refl _ _)).len; omega
  have HX : Hid (∀ W, Below w2.heap.size w2 W → Reads W ox nx (xorL a b)) := fun W h => hx.below h
  clear hb2
  go_wp2_with fail
  refine (bytes_r _ _ _ _ _ _ _ _ _ (HA.out _ (by assumption)) (HB.out _ (by assumption)) hla1 hlb1).mono ?_
  rintro e w3 ⟨rfl, hb3⟩
  have h3 := below_step (W := w) (by assumption) hb3
  go_wp2_with fail
  refine (zero_r _ _ _ _ _ (HX.out _ hb3) hxl).mono ?_
  rintro e w4 ⟨rfl, rfl⟩
  rw [HZ.out]
  go_wp2_with fail
  have HC1 : Hid (∀ W, Below w.heap.size w W → (convert 22 9 (.slice ob n d)).run Try.prog W = .ok (.string (str (b.take n))) W) := fun W h => later_convert (P := Try.prog) HU d (HBk.out w (Below.refl _ _)) W h
  have HC2 : Hid (∀ W, Below w.heap.size w W → (convert 22 9 (.slice oa n c)).run Try.prog W = .ok (.string (str (a.take n))) W) := fun W h => later_convert (P := Try.prog) HU c (HAk.out w (Below.refl _ _)) W h
  have hc1 : ∀ W, Below w4.drew.heap.size w4.drew W → (convert 22 9 (.slice ob n d)).run Try.prog W = .ok (.string (str (b.take n))) W := fun W h => HC1.out W (below_step (W := w) (by exact h3.drew) h)
  have hd0 : Below w.heap.size w w4.drew := h3.drew
  have hX0 : Below w2.heap.size w2 w4.drew := hb3.drew
  refine wp_region_seq [(0, true), (1, true), (2, true), (3, true), (6, true), (7, true), (8, true), (9, true), (4, false), (5, true), (10, true), (11, true), (12, true), (13, true), (14, true), (15, true), (18, true), (19, true), (20, true), (21, true), (16, false), (17, true), (22, true), (23, true), (24, true)] (by kernel_rfl) (by kernel_rfl) (fun _ _ dd _ _ h => by cases dd <;> exact h) ?_
  generalize w4.drew = W0 at *
  (refine seq_take (d := 38) (v := ?_) rfl rfl rfl ?_ ?_; rotate_left; (focus ((intro w' hw'; go_simp) <;> with_reducible rfl)); simp only [Act.put, List.setIfInBounds_toArray, List.set_cons_zero, List.set_cons_succ])
  (refine seq_take (d := 39) (v := ?_) rfl rfl rfl ?_ ?_; rotate_left; (focus ((intro w' hw'; go_simp) <;> with_reducible rfl)); simp only [Act.put, List.setIfInBounds_toArray, List.set_cons_zero, List.set_cons_succ])
  (refine seq_take (d := 40) (v := ?_) rfl rfl rfl ?_ ?_; rotate_left; (focus ((intro w' hw'; go_simp) <;> with_reducible rfl)); simp only [Act.put, List.setIfInBounds_toArray, List.set_cons_zero, List.set_cons_succ])
  (refine seq_take (d := 41) (v := ?_) rfl rfl rfl ?_ ?_; rotate_left; (focus ((intro w' hw'; go_simp) <;> with_reducible rfl)); simp only [Act.put, List.setIfInBounds_toArray, List.set_cons_zero, List.set_cons_succ])
  (refine seq_take (d := 44) (v := ?_) rfl rfl rfl ?_ ?_; rotate_left; (focus ((intro w' hw'; go_simp) <;> with_reducible rfl)); simp only [Act.put, List.setIfInBounds_toArray, List.set_cons_zero, List.set_cons_succ])
  (refine seq_take (d := 45) (v := ?_) rfl rfl rfl ?_ ?_; rotate_left; (focus ((intro w' hw'; go_simp) <;> with_reducible rfl)); simp only [Act.put, List.setIfInBounds_toArray, List.set_cons_zero, List.set_cons_succ])
  (refine seq_take (d := 46) (v := ?_) rfl rfl rfl ?_ ?_; rotate_left; (focus ((intro w' hw'; go_simp) <;> with_reducible rfl)); simp only [Act.put, List.setIfInBounds_toArray, List.set_cons_zero, List.set_cons_succ])
  (refine seq_take (d := 47) (v := ?_) rfl rfl rfl ?_ ?_; rotate_left; (focus ((intro w' hw'; go_simp) <;> with_reducible rfl)); simp only [Act.put, List.setIfInBounds_toArray, List.set_cons_zero, List.set_cons_succ])
  refine seq_do rfl rfl (fun K hK => ?_)
  go_simp
  clear hc1
  refine (xor_r _ _ _ _ _ _ _ _ _ (HX.out _ (by assumption)) (HAk.out _ (by assumption)) hxl hk1).mono ?_
  rintro e w5 ⟨oa5, n5, c5, rfl, hr5, hb5⟩
  have h5 := below_step (W := w) (by assumption) hb5
  have hX5 := below_step (W := w2) (by assumption) hb5
  rw [HM.out.1] at hr5
  have hcv5 := later_convert (P := Try.prog) HU c5 hr5
  refine hK _ _ hb5 ?_
  clear hb5 hr5 hK K
  have r5 := Below.refl w5.heap.size w5
  have hc2 : ∀ W, Below w5.heap.size w5 W → (convert 22 9 (.slice oa n c)).run Try.prog W = .ok (.string (str (a.take n))) W := fun W h => HC2.out W (below_step (W := w) h5 h)
  (refine seq_take (d := 43) (v := ?_) rfl rfl rfl ?_ ?_; rotate_left; (focus ((intro w' hw'; go_simp) <;> with_reducible rfl)); simp only [Act.put, List.setIfInBounds_toArray, List.set_cons_zero, List.set_cons_succ])
  (refine seq_take (d := 48) (v := ?_) rfl rfl rfl ?_ ?_; rotate_left; (focus ((intro w' hw'; go_simp) <;> with_reducible rfl)); simp only [Act.put, List.setIfInBounds_toArray, List.set_cons_zero, List.set_cons_succ])
  (refine seq_take (d := 49) (v := ?_) rfl rfl rfl ?_ ?_; rotate_left; (focus ((intro w' hw'; go_simp) <;> with_reducible rfl)); simp only [Act.put, List.setIfInBounds_toArray, List.set_cons_zero, List.set_cons_succ])
  (refine seq_take (d := 50) (v := ?_) rfl rfl rfl ?_ ?_; rotate_left; (focus ((intro w' hw'; go_simp) <;> with_reducible rfl)); simp only [Act.put, List.setIfInBounds_toArray, List.set_cons_zero, List.set_cons_succ])
  (refine seq_take (d := 51) (v := ?_) rfl rfl rfl ?_ ?_; rotate_left; (focus ((intro w' hw'; go_simp) <;> with_reducible rfl)); simp only [Act.put, List.setIfInBounds_toArray, List.set_cons_zero, List.set_cons_succ])
  (refine seq_take (d := 52) (v := ?_) rfl rfl rfl ?_ ?_; rotate_left; (focus ((intro w' hw'; go_simp) <;> with_reducible rfl)); simp only [Act.put, List.setIfInBounds_toArray, List.set_cons_zero, List.set_cons_succ])
  (refine seq_take (d := 53) (v := ?_) rfl rfl rfl ?_ ?_; rotate_left; (focus ((intro w' hw'; go_simp) <;> with_reducible rfl)); simp only [Act.put, List.setIfInBounds_toArray, List.set_cons_zero, List.set_cons_succ])
  (refine seq_take (d := 56) (v := ?_) rfl rfl rfl ?_ ?_; rotate_left; (focus ((intro w' hw'; go_simp) <;> with_reducible rfl)); simp only [Act.put, List.setIfInBounds_toArray, List.set_cons_zero, List.set_cons_succ])
  (refine seq_take (d := 57) (v := ?_) rfl rfl rfl ?_ ?_; rotate_left; (focus ((intro w' hw'; go_simp) <;> with_reducible rfl)); simp only [Act.put, List.setIfInBounds_toArray, List.set_cons_zero, List.set_cons_succ])
  (refine seq_take (d := 58) (v := ?_) rfl rfl rfl ?_ ?_; rotate_left; (focus ((intro w' hw'; go_simp) <;> with_reducible rfl)); simp only [Act.put, List.setIfInBounds_toArray, List.set_cons_zero, List.set_cons_succ])
  (refine seq_take (d := 59) (v := ?_) rfl rfl rfl ?_ ?_; rotate_left; (focus ((intro w' hw'; go_simp) <;> with_reducible rfl)); simp only [Act.put, List.setIfInBounds_toArray, List.set_cons_zero, List.set_cons_succ])
  refine seq_do rfl rfl (fun K hK => ?_)
  go_simp
  clear hcv5 r5 hc2
  refine (xor_r _ _ _ _ _ _ _ _ _ (HX.out _ (by assumption)) (HBk.out _ (by assumption)) hxl hk1).mono ?_
  rintro e w6 ⟨oa6, n6, c6, rfl, hr6, hb6⟩
  have h6 := below_step (W := w) (by assumption) hb6
  have hX6 := below_step (W := w2) (by assumption) hb6
  rw [HM.out.2] at hr6
  have hcv6 := later_convert (P := Try.prog) HU c6 hr6
  refine hK _ _ hb6 ?_
  clear hb6 hr6 hK K
  have r6 := Below.refl w6.heap.size w6
  (refine seq_take (d := 55) (v := ?_) rfl rfl rfl ?_ ?_; rotate_left; (focus ((intro w' hw'; go_simp) <;> with_reducible rfl)); simp only [Act.put, List.setIfInBounds_toArray, List.set_cons_zero, List.set_cons_succ])
  (refine seq_take (d := 60) (v := ?_) rfl rfl rfl ?_ ?_; rotate_left; (focus ((intro w' hw'; go_simp) <;> with_reducible rfl)); simp only [Act.put, List.setIfInBounds_toArray, List.set_cons_zero, List.set_cons_succ])
  (refine seq_take (d := 61) (v := ?_) rfl rfl rfl ?_ ?_; rotate_left; (focus ((intro w' hw'; go_simp) <;> with_reducible rfl)); simp only [Act.put, List.setIfInBounds_toArray, List.set_cons_zero, List.set_cons_succ])
  (refine seq_take (d := 4) (v := ?_) rfl rfl rfl ?_ ?_; rotate_left; (focus ((intro w' hw'; go_simp) <;> with_reducible rfl)); simp only [Act.put, List.setIfInBounds_toArray, List.set_cons_zero, List.set_cons_succ])
  refine seq_end ?_
  go_wp2
  go_ret
  exact ⟨rfl, h6⟩

set_option maxRecDepth 100000 in
theorem back_lt (oa ob : Option Addr) (n m : Nat) (a b : List UInt8) (c d : Nat) (w : World) (ha : Reads w oa n a) (hb : Reads w ob m b) (hla : n ≤ 3000) (hlb : m ≤ 3000) (hnc : n ≤ c) (hmd : m ≤ d) (he : n < m) :
    Calls Try.prog 4 #[.slice oa n c, .slice ob m d] w fun e w' => e = .returned (.bool true) ∧ Below w.heap.size w w' := by
  have HA : Hid (∀ W, Below w.heap.size w W → Reads W oa n a) := fun W h => ha.below h
  have HB : Hid (∀ W, Below w.heap.size w W → Reads W ob m b) := fun W h => hb.below h
  have HAk : Hid (∀ W, Below w.heap.size w W → Reads W oa n (a.take n)) := fun W h => (ha.below h).take n (by omega)
  have HBk : Hid (∀ W, Below w.heap.size w W → Reads W ob n (b.take n)) := fun W h => (hb.below h).take n (by omega)
  have hla1 : n ≤ 140737488351232 := by omega
  have hlb1 : m ≤ 140737488351232 := by omega
  have hk1 : n ≤ 140737488351232 := by omega
  have hla2 : ¬ (3000 : Int) < (n : Int) := by omega
  have hlb2 : ¬ (3000 : Int) < (m : Int) := by omega
  have hkc : n ≤ c := by omega
  have hkd : n ≤ d := by omega
  have HU : Hid (Try.prog.underlying 22 = some (.slice 5) ∧ Try.prog.underlying 5 = some (.int .u8) ∧ Try.prog.underlying 9 = some .string) := ⟨Try.underlying22, Try.underlying5, Try.underlying9⟩
  have HM : Hid (xorL (xorL a b) (a.take n) = b.take n ∧ xorL (xorL a b) (b.take n) = a.take n) := by
    have e : n = min a.length b.length := by rw [← ha.len, ← hb.len]; omega
    rw [e]; exact ⟨xor_back a b, xor_back' a b⟩
  have HZ : Hid (decide (a = b) = false) := by show _ = _; rw [decide_eq_false_iff_not]; intro h; subst h; have := ha.len; have := hb.len; omega
  clear ha hb
  have hnm1 : ((n : Int) == (m : Int)) = false := by rw [beq_eq_false_iff_ne]; omega
  have hmin : n ≤ m := by omega
  clear he
  go_enter Try.func4, Try.ntmps4
  go_wp2_with fail
  refine (works_any _).mono ?_
  rintro e w1 ⟨rfl, h1⟩
  go_wp2_with fail
  refine (xor_r _ _ _ _ _ _ _ _ _ (HA.out _ (by assumption)) (HB.out _ (by assumption)) hla1 hlb1).mono ?_
  rintro e w2 ⟨ox, nx, cx, rfl, hx, hb2⟩
  have h2 := below_step (W := w) (by assumption) hb2
  have hxl : nx ≤ 140737488351232 := by rw [hx.len, xorL_length]; have := (HA.out _ (Below.refl _ _)).len; omega
  have HX : Hid (∀ W, Below w2.heap.size w2 W → Reads W ox nx (xorL a b)) := fun W h => hx.below h
  clear hb2
  go_wp2_with fail
  refine (bytes_r _ _ _ _ _ _ _ _ _ (HA.out _ (by assumption)) (HB.out _ (by assumption)) hla1 hlb1).mono ?_
  rintro e w3 ⟨rfl, hb3⟩
  have h3 := below_step (W := w) (by assumption) hb3
  rw [HZ.out]
  go_wp2_with fail
  have HC1 : Hid (∀ W, Below w.heap.size w W → (convert 22 9 (.slice ob n d)).run Try.prog W = .ok (.string (str (b.take n))) W) := fun W h => later_convert (P := Try.prog) HU d (HBk.out w (Below.refl _ _)) W h
  have HC2 : Hid (∀ W, Below w.heap.size w W → (convert 22 9 (.slice oa n c)).run Try.prog W = .ok (.string (str (a.take n))) W) := fun W h => later_convert (P := Try.prog) HU c (HAk.out w (Below.refl _ _)) W h
  have hc1 : ∀ W, Below w3.drew.heap.size w3.drew W → (convert 22 9 (.slice ob n d)).run Try.prog W = .ok (.string (str (b.take n))) W := fun W h => HC1.out W (below_step (W := w) (by exact h3.drew) h)
  have hd0 : Below w.heap.size w w3.drew := h3.drew
  have hX0 : Below w2.heap.size w2 w3.drew := hb3.drew
  refine wp_region_seq [(0, true), (1, true), (2, true), (3, true), (6, true), (7, true), (8, true), (9, true), (4, false), (5, true), (10, true), (11, true), (12, true), (13, true), (14, true), (15, true), (18, true), (19, true), (20, true), (21, true), (16, false), (17, true), (22, true), (23, true), (24, true)] (by kernel_rfl) (by kernel_rfl) (fun _ _ dd _ _ h => by cases dd <;> exact h) ?_
  generalize w3.drew = W0 at *
  (refine seq_take (d := 38) (v := ?_) rfl rfl rfl ?_ ?_; rotate_left; (focus ((intro w' hw'; go_simp) <;> with_reducible rfl)); simp only [Act.put, List.setIfInBounds_toArray, List.set_cons_zero, List.set_cons_succ])
  (refine seq_take (d := 39) (v := ?_) rfl rfl rfl ?_ ?_; rotate_left; (focus ((intro w' hw'; go_simp) <;> with_reducible rfl)); simp only [Act.put, List.setIfInBounds_toArray, List.set_cons_zero, List.set_cons_succ])
  (refine seq_take (d := 40) (v := ?_) rfl rfl rfl ?_ ?_; rotate_left; (focus ((intro w' hw'; go_simp) <;> with_reducible rfl)); simp only [Act.put, List.setIfInBounds_toArray, List.set_cons_zero, List.set_cons_succ])
  (refine seq_take (d := 41) (v := ?_) rfl rfl rfl ?_ ?_; rotate_left; (focus ((intro w' hw'; go_simp) <;> with_reducible rfl)); simp only [Act.put, List.setIfInBounds_toArray, List.set_cons_zero, List.set_cons_succ])
  (refine seq_take (d := 44) (v := ?_) rfl rfl rfl ?_ ?_; rotate_left; (focus ((intro w' hw'; go_simp) <;> with_reducible rfl)); simp only [Act.put, List.setIfInBounds_toArray, List.set_cons_zero, List.set_cons_succ])
  (refine seq_take (d := 45) (v := ?_) rfl rfl rfl ?_ ?_; rotate_left; (focus ((intro w' hw'; go_simp) <;> with_reducible rfl)); simp only [Act.put, List.setIfInBounds_toArray, List.set_cons_zero, List.set_cons_succ])
  (refine seq_take (d := 46) (v := ?_) rfl rfl rfl ?_ ?_; rotate_left; (focus ((intro w' hw'; go_simp) <;> with_reducible rfl)); simp only [Act.put, List.setIfInBounds_toArray, List.set_cons_zero, List.set_cons_succ])
  (refine seq_take (d := 47) (v := ?_) rfl rfl rfl ?_ ?_; rotate_left; (focus ((intro w' hw'; go_simp) <;> with_reducible rfl)); simp only [Act.put, List.setIfInBounds_toArray, List.set_cons_zero, List.set_cons_succ])
  refine seq_do rfl rfl (fun K hK => ?_)
  go_simp
  clear hc1
  refine (xor_r _ _ _ _ _ _ _ _ _ (HX.out _ (by assumption)) (HAk.out _ (by assumption)) hxl hk1).mono ?_
  rintro e w5 ⟨oa5, n5, c5, rfl, hr5, hb5⟩
  have h5 := below_step (W := w) (by assumption) hb5
  have hX5 := below_step (W := w2) (by assumption) hb5
  rw [HM.out.1] at hr5
  have hcv5 := later_convert (P := Try.prog) HU c5 hr5
  refine hK _ _ hb5 ?_
  clear hb5 hr5 hK K
  have r5 := Below.refl w5.heap.size w5
  have hc2 : ∀ W, Below w5.heap.size w5 W → (convert 22 9 (.slice oa n c)).run Try.prog W = .ok (.string (str (a.take n))) W := fun W h => HC2.out W (below_step (W := w) h5 h)
  (refine seq_take (d := 43) (v := ?_) rfl rfl rfl ?_ ?_; rotate_left; (focus ((intro w' hw'; go_simp) <;> with_reducible rfl)); simp only [Act.put, List.setIfInBounds_toArray, List.set_cons_zero, List.set_cons_succ])
  (refine seq_take (d := 48) (v := ?_) rfl rfl rfl ?_ ?_; rotate_left; (focus ((intro w' hw'; go_simp) <;> with_reducible rfl)); simp only [Act.put, List.setIfInBounds_toArray, List.set_cons_zero, List.set_cons_succ])
  (refine seq_take (d := 49) (v := ?_) rfl rfl rfl ?_ ?_; rotate_left; (focus ((intro w' hw'; go_simp) <;> with_reducible rfl)); simp only [Act.put, List.setIfInBounds_toArray, List.set_cons_zero, List.set_cons_succ])
  (refine seq_take (d := 50) (v := ?_) rfl rfl rfl ?_ ?_; rotate_left; (focus ((intro w' hw'; go_simp) <;> with_reducible rfl)); simp only [Act.put, List.setIfInBounds_toArray, List.set_cons_zero, List.set_cons_succ])
  (refine seq_take (d := 51) (v := ?_) rfl rfl rfl ?_ ?_; rotate_left; (focus ((intro w' hw'; go_simp) <;> with_reducible rfl)); simp only [Act.put, List.setIfInBounds_toArray, List.set_cons_zero, List.set_cons_succ])
  (refine seq_take (d := 52) (v := ?_) rfl rfl rfl ?_ ?_; rotate_left; (focus ((intro w' hw'; go_simp) <;> with_reducible rfl)); simp only [Act.put, List.setIfInBounds_toArray, List.set_cons_zero, List.set_cons_succ])
  (refine seq_take (d := 53) (v := ?_) rfl rfl rfl ?_ ?_; rotate_left; (focus ((intro w' hw'; go_simp) <;> with_reducible rfl)); simp only [Act.put, List.setIfInBounds_toArray, List.set_cons_zero, List.set_cons_succ])
  (refine seq_take (d := 56) (v := ?_) rfl rfl rfl ?_ ?_; rotate_left; (focus ((intro w' hw'; go_simp) <;> with_reducible rfl)); simp only [Act.put, List.setIfInBounds_toArray, List.set_cons_zero, List.set_cons_succ])
  (refine seq_take (d := 57) (v := ?_) rfl rfl rfl ?_ ?_; rotate_left; (focus ((intro w' hw'; go_simp) <;> with_reducible rfl)); simp only [Act.put, List.setIfInBounds_toArray, List.set_cons_zero, List.set_cons_succ])
  (refine seq_take (d := 58) (v := ?_) rfl rfl rfl ?_ ?_; rotate_left; (focus ((intro w' hw'; go_simp) <;> with_reducible rfl)); simp only [Act.put, List.setIfInBounds_toArray, List.set_cons_zero, List.set_cons_succ])
  (refine seq_take (d := 59) (v := ?_) rfl rfl rfl ?_ ?_; rotate_left; (focus ((intro w' hw'; go_simp) <;> with_reducible rfl)); simp only [Act.put, List.setIfInBounds_toArray, List.set_cons_zero, List.set_cons_succ])
  refine seq_do rfl rfl (fun K hK => ?_)
  go_simp
  clear hcv5 r5 hc2
  refine (xor_r _ _ _ _ _ _ _ _ _ (HX.out _ (by assumption)) (HBk.out _ (by assumption)) hxl hk1).mono ?_
  rintro e w6 ⟨oa6, n6, c6, rfl, hr6, hb6⟩
  have h6 := below_step (W := w) (by assumption) hb6
  have hX6 := below_step (W := w2) (by assumption) hb6
  rw [HM.out.2] at hr6
  have hcv6 := later_convert (P := Try.prog) HU c6 hr6
  refine hK _ _ hb6 ?_
  clear hb6 hr6 hK K
  have r6 := Below.refl w6.heap.size w6
  (refine seq_take (d := 55) (v := ?_) rfl rfl rfl ?_ ?_; rotate_left; (focus ((intro w' hw'; go_simp) <;> with_reducible rfl)); simp only [Act.put, List.setIfInBounds_toArray, List.set_cons_zero, List.set_cons_succ])
  (refine seq_take (d := 60) (v := ?_) rfl rfl rfl ?_ ?_; rotate_left; (focus ((intro w' hw'; go_simp) <;> with_reducible rfl)); simp only [Act.put, List.setIfInBounds_toArray, List.set_cons_zero, List.set_cons_succ])
  (refine seq_take (d := 61) (v := ?_) rfl rfl rfl ?_ ?_; rotate_left; (focus ((intro w' hw'; go_simp) <;> with_reducible rfl)); simp only [Act.put, List.setIfInBounds_toArray, List.set_cons_zero, List.set_cons_succ])
  (refine seq_take (d := 4) (v := ?_) rfl rfl rfl ?_ ?_; rotate_left; (focus ((intro w' hw'; go_simp) <;> with_reducible rfl)); simp only [Act.put, List.setIfInBounds_toArray, List.set_cons_zero, List.set_cons_succ])
  refine seq_end ?_
  go_wp2
  go_ret
  exact ⟨rfl, h6⟩

set_option maxRecDepth 100000 in
theorem back_gt (oa ob : Option Addr) (n m : Nat) (a b : List UInt8) (c d : Nat) (w : World) (ha : Reads w oa n a) (hb : Reads w ob m b) (hla : n ≤ 3000) (hlb : m ≤ 3000) (hnc : n ≤ c) (hmd : m ≤ d) (he : m < n) :
    Calls Try.prog 4 #[.slice oa n c, .slice ob m d] w fun e w' => e = .returned (.bool true) ∧ Below w.heap.size w w' := by
  have HA : Hid (∀ W, Below w.heap.size w W → Reads W oa n a) := fun W h => ha.below h
  have HB : Hid (∀ W, Below w.heap.size w W → Reads W ob m b) := fun W h => hb.below h
  have HAk : Hid (∀ W, Below w.heap.size w W → Reads W oa m (a.take m)) := fun W h => (ha.below h).take m (by omega)
  have HBk : Hid (∀ W, Below w.heap.size w W → Reads W ob m (b.take m)) := fun W h => (hb.below h).take m (by omega)
  have hla1 : n ≤ 140737488351232 := by omega
  have hlb1 : m ≤ 140737488351232 := by omega
  have hk1 : m ≤ 140737488351232 := by omega
  have hla2 : ¬ (3000 : Int) < (n : Int) := by omega
  have hlb2 : ¬ (3000 : Int) < (m : Int) := by omega
  have hkc : m ≤ c := by omega
  have hkd : m ≤ d := by omega
  have HU : Hid (Try.prog.underlying 22 = some (.slice 5) ∧ Try.prog.underlying 5 = some (.int .u8) ∧ Try.prog.underlying 9 = some .string) := ⟨Try.underlying22, Try.underlying5, Try.underlying9⟩
  have HM : Hid (xorL (xorL a b) (a.take m) = b.take m ∧ xorL (xorL a b) (b.take m) = a.take m) := by
    have e : m = min a.length b.length := by rw [← ha.len, ← hb.len]; omega
    rw [e]; exact ⟨xor_back a b, xor_back' a b⟩
  have HZ : Hid (decide (a = b) = false) := by show _ = _; rw [decide_eq_false_iff_not]; intro h; subst h; have := ha.len; have := hb.len; omega
  clear ha hb
  have hnm1 : ((n : Int) == (m : Int)) = false := by rw [beq_eq_false_iff_ne]; omega
  have hmin : ¬ n ≤ m := by omega
  clear he
  go_enter Try.func4, Try.ntmps4
  go_wp2_with fail
  refine (works_any _).mono ?_
  rintro e w1 ⟨rfl, h1⟩
  go_wp2_with fail
  refine (xor_r _ _ _ _ _ _ _ _ _ (HA.out _ (by assumption)) (HB.out _ (by assumption)) hla1 hlb1).mono ?_
  rintro e w2 ⟨ox, nx, cx, rfl, hx, hb2⟩
  have h2 := below_step (W := w) (by assumption) hb2
  have hxl : nx ≤ 140737488351232 := by rw [hx.len, xorL_length]; have := (HA.out _ (Below.refl _ _)).len; omega
  have HX : Hid (∀ W, Below w2.heap.size w2 W → Reads W ox nx (xorL a b)) := fun W h => hx.below h
  clear hb2
  go_wp2_with fail
  refine (bytes_r _ _ _ _ _ _ _ _ _ (HA.out _ (by assumption)) (HB.out _ (by assumption)) hla1 hlb1).mono ?_
  rintro e w3 ⟨rfl, hb3⟩
  have h3 := below_step (W := w) (by assumption) hb3
  rw [HZ.out]
  go_wp2_with fail
  have HC1 : Hid (∀ W, Below w.heap.size w W → (convert 22 9 (.slice ob m d)).run Try.prog W = .ok (.string (str (b.take m))) W) := fun W h => later_convert (P := Try.prog) HU d (HBk.out w (Below.refl _ _)) W h
  have HC2 : Hid (∀ W, Below w.heap.size w W → (convert 22 9 (.slice oa m c)).run Try.prog W = .ok (.string (str (a.take m))) W) := fun W h => later_convert (P := Try.prog) HU c (HAk.out w (Below.refl _ _)) W h
  have hc1 : ∀ W, Below w3.drew.heap.size w3.drew W → (convert 22 9 (.slice ob m d)).run Try.prog W = .ok (.string (str (b.take m))) W := fun W h => HC1.out W (below_step (W := w) (by exact h3.drew) h)
  have hd0 : Below w.heap.size w w3.drew := h3.drew
  have hX0 : Below w2.heap.size w2 w3.drew := hb3.drew
  refine wp_region_seq [(0, true), (1, true), (2, true), (3, true), (6, true), (7, true), (8, true), (9, true), (4, false), (5, true), (10, true), (11, true), (12, true), (13, true), (14, true), (15, true), (18, true), (19, true), (20, true), (21, true), (16, false), (17, true), (22, true), (23, true), (24, true)] (by kernel_rfl) (by kernel_rfl) (fun _ _ dd _ _ h => by cases dd <;> exact h) ?_
  generalize w3.drew = W0 at *
  (refine seq_take (d := 38) (v := ?_) rfl rfl rfl ?_ ?_; rotate_left; (focus ((intro w' hw'; go_simp) <;> with_reducible rfl)); simp only [Act.put, List.setIfInBounds_toArray, List.set_cons_zero, List.set_cons_succ])
  (refine seq_take (d := 39) (v := ?_) rfl rfl rfl ?_ ?_; rotate_left; (focus ((intro w' hw'; go_simp) <;> with_reducible rfl)); simp only [Act.put, List.setIfInBounds_toArray, List.set_cons_zero, List.set_cons_succ])
  (refine seq_take (d := 40) (v := ?_) rfl rfl rfl ?_ ?_; rotate_left; (focus ((intro w' hw'; go_simp) <;> with_reducible rfl)); simp only [Act.put, List.setIfInBounds_toArray, List.set_cons_zero, List.set_cons_succ])
  (refine seq_take (d := 41) (v := ?_) rfl rfl rfl ?_ ?_; rotate_left; (focus ((intro w' hw'; go_simp) <;> with_reducible rfl)); simp only [Act.put, List.setIfInBounds_toArray, List.set_cons_zero, List.set_cons_succ])
  (refine seq_take (d := 44) (v := ?_) rfl rfl rfl ?_ ?_; rotate_left; (focus ((intro w' hw'; go_simp) <;> with_reducible rfl)); simp only [Act.put, List.setIfInBounds_toArray, List.set_cons_zero, List.set_cons_succ])
  (refine seq_take (d := 45) (v := ?_) rfl rfl rfl ?_ ?_; rotate_left; (focus ((intro w' hw'; go_simp) <;> with_reducible rfl)); simp only [Act.put, List.setIfInBounds_toArray, List.set_cons_zero, List.set_cons_succ])
  (refine seq_take (d := 46) (v := ?_) rfl rfl rfl ?_ ?_; rotate_left; (focus ((intro w' hw'; go_simp) <;> with_reducible rfl)); simp only [Act.put, List.setIfInBounds_toArray, List.set_cons_zero, List.set_cons_succ])
  (refine seq_take (d := 47) (v := ?_) rfl rfl rfl ?_ ?_; rotate_left; (focus ((intro w' hw'; go_simp) <;> with_reducible rfl)); simp only [Act.put, List.setIfInBounds_toArray, List.set_cons_zero, List.set_cons_succ])
  refine seq_do rfl rfl (fun K hK => ?_)
  go_simp
  clear hc1
  refine (xor_r _ _ _ _ _ _ _ _ _ (HX.out _ (by assumption)) (HAk.out _ (by assumption)) hxl hk1).mono ?_
  rintro e w5 ⟨oa5, n5, c5, rfl, hr5, hb5⟩
  have h5 := below_step (W := w) (by assumption) hb5
  have hX5 := below_step (W := w2) (by assumption) hb5
  rw [HM.out.1] at hr5
  have hcv5 := later_convert (P := Try.prog) HU c5 hr5
  refine hK _ _ hb5 ?_
  clear hb5 hr5 hK K
  have r5 := Below.refl w5.heap.size w5
  have hc2 : ∀ W, Below w5.heap.size w5 W → (convert 22 9 (.slice oa m c)).run Try.prog W = .ok (.string (str (a.take m))) W := fun W h => HC2.out W (below_step (W := w) h5 h)
  (refine seq_take (d := 43) (v := ?_) rfl rfl rfl ?_ ?_; rotate_left; (focus ((intro w' hw'; go_simp) <;> with_reducible rfl)); simp only [Act.put, List.setIfInBounds_toArray, List.set_cons_zero, List.set_cons_succ])
  (refine seq_take (d := 48) (v := ?_) rfl rfl rfl ?_ ?_; rotate_left; (focus ((intro w' hw'; go_simp) <;> with_reducible rfl)); simp only [Act.put, List.setIfInBounds_toArray, List.set_cons_zero, List.set_cons_succ])
  (refine seq_take (d := 49) (v := ?_) rfl rfl rfl ?_ ?_; rotate_left; (focus ((intro w' hw'; go_simp) <;> with_reducible rfl)); simp only [Act.put, List.setIfInBounds_toArray, List.set_cons_zero, List.set_cons_succ])
  (refine seq_take (d := 50) (v := ?_) rfl rfl rfl ?_ ?_; rotate_left; (focus ((intro w' hw'; go_simp) <;> with_reducible rfl)); simp only [Act.put, List.setIfInBounds_toArray, List.set_cons_zero, List.set_cons_succ])
  (refine seq_take (d := 51) (v := ?_) rfl rfl rfl ?_ ?_; rotate_left; (focus ((intro w' hw'; go_simp) <;> with_reducible rfl)); simp only [Act.put, List.setIfInBounds_toArray, List.set_cons_zero, List.set_cons_succ])
  (refine seq_take (d := 52) (v := ?_) rfl rfl rfl ?_ ?_; rotate_left; (focus ((intro w' hw'; go_simp) <;> with_reducible rfl)); simp only [Act.put, List.setIfInBounds_toArray, List.set_cons_zero, List.set_cons_succ])
  (refine seq_take (d := 53) (v := ?_) rfl rfl rfl ?_ ?_; rotate_left; (focus ((intro w' hw'; go_simp) <;> with_reducible rfl)); simp only [Act.put, List.setIfInBounds_toArray, List.set_cons_zero, List.set_cons_succ])
  (refine seq_take (d := 56) (v := ?_) rfl rfl rfl ?_ ?_; rotate_left; (focus ((intro w' hw'; go_simp) <;> with_reducible rfl)); simp only [Act.put, List.setIfInBounds_toArray, List.set_cons_zero, List.set_cons_succ])
  (refine seq_take (d := 57) (v := ?_) rfl rfl rfl ?_ ?_; rotate_left; (focus ((intro w' hw'; go_simp) <;> with_reducible rfl)); simp only [Act.put, List.setIfInBounds_toArray, List.set_cons_zero, List.set_cons_succ])
  (refine seq_take (d := 58) (v := ?_) rfl rfl rfl ?_ ?_; rotate_left; (focus ((intro w' hw'; go_simp) <;> with_reducible rfl)); simp only [Act.put, List.setIfInBounds_toArray, List.set_cons_zero, List.set_cons_succ])
  (refine seq_take (d := 59) (v := ?_) rfl rfl rfl ?_ ?_; rotate_left; (focus ((intro w' hw'; go_simp) <;> with_reducible rfl)); simp only [Act.put, List.setIfInBounds_toArray, List.set_cons_zero, List.set_cons_succ])
  refine seq_do rfl rfl (fun K hK => ?_)
  go_simp
  clear hcv5 r5 hc2
  refine (xor_r _ _ _ _ _ _ _ _ _ (HX.out _ (by assumption)) (HBk.out _ (by assumption)) hxl hk1).mono ?_
  rintro e w6 ⟨oa6, n6, c6, rfl, hr6, hb6⟩
  have h6 := below_step (W := w) (by assumption) hb6
  have hX6 := below_step (W := w2) (by assumption) hb6
  rw [HM.out.2] at hr6
  have hcv6 := later_convert (P := Try.prog) HU c6 hr6
  refine hK _ _ hb6 ?_
  clear hb6 hr6 hK K
  have r6 := Below.refl w6.heap.size w6
  (refine seq_take (d := 55) (v := ?_) rfl rfl rfl ?_ ?_; rotate_left; (focus ((intro w' hw'; go_simp) <;> with_reducible rfl)); simp only [Act.put, List.setIfInBounds_toArray, List.set_cons_zero, List.set_cons_succ])
  (refine seq_take (d := 60) (v := ?_) rfl rfl rfl ?_ ?_; rotate_left; (focus ((intro w' hw'; go_simp) <;> with_reducible rfl)); simp only [Act.put, List.setIfInBounds_toArray, List.set_cons_zero, List.set_cons_succ])
  (refine seq_take (d := 61) (v := ?_) rfl rfl rfl ?_ ?_; rotate_left; (focus ((intro w' hw'; go_simp) <;> with_reducible rfl)); simp only [Act.put, List.setIfInBounds_toArray, List.set_cons_zero, List.set_cons_succ])
  (refine seq_take (d := 4) (v := ?_) rfl rfl rfl ?_ ?_; rotate_left; (focus ((intro w' hw'; go_simp) <;> with_reducible rfl)); simp only [Act.put, List.setIfInBounds_toArray, List.set_cons_zero, List.set_cons_succ])
  refine seq_end ?_
  go_wp2
  go_ret
  exact ⟨rfl, h6⟩

theorem back_great (oa ob : Option Addr) (n m : Nat) (c d : Nat) (w : World) (hl : 3000 < n ∨ 3000 < m) :
    Calls Try.prog 4 #[.slice oa n c, .slice ob m d] w fun e w' => e = .returned (.bool true) ∧ Below w.heap.size w w' := by
  by_cases h1 : 3000 < n
  · have h2 : (3000 : Int) < (n : Int) := by omega
    clear hl h1
    go_enter Try.func4, Try.ntmps4
    go_wp2_with (go_at_call 6; refine (works_any _).mono ?_; rintro e w1 ⟨rfl, hb1⟩)
    go_ret
    exact ⟨rfl, hb1⟩
  · have h3 : ¬ (3000 : Int) < (n : Int) := by omega
    have h2 : (3000 : Int) < (m : Int) := by omega
    clear hl h1
    go_enter Try.func4, Try.ntmps4
    go_wp2_with (go_at_call 6; refine (works_any _).mono ?_; rintro e w1 ⟨rfl, hb1⟩)
    go_ret
    exact ⟨rfl, hb1⟩

theorem back_any (oa ob : Option Addr) (n m : Nat) (a b : List UInt8) (c d : Nat) (w : World) (ha : Reads w oa n a) (hb : Reads w ob m b) (hnc : n ≤ c) (hmd : m ≤ d) :
    Calls Try.prog 4 #[.slice oa n c, .slice ob m d] w fun e w' => e = .returned (.bool true) ∧ Below w.heap.size w w' := by
  by_cases h : 3000 < n ∨ 3000 < m
  · exact back_great oa ob n m c d w h
  · rcases Nat.lt_trichotomy n m with he | he | he
    · exact back_lt oa ob n m a b c d w ha hb (by omega) (by omega) hnc hmd he
    · exact back_eq oa ob n m a b c d w ha hb (by omega) (by omega) hnc hmd he
    · exact back_gt oa ob n m a b c d w ha hb (by omega) (by omega) hnc hmd he


end Go.Proofs.Ytgpaekmkkjbilaa
