/-
  Walks: the sessions that are waited for; the places, the document's; the same numbers.
-/
import Derived.Test.YtmbakknpnilooaaWj
namespace Go.Proofs.Ytmbakknpnilooaa
open Go.RowKit Go.Proofs.Ytmbakknpnilooaa.Plan Go.Proofs.Ytmbakknpnilooaa.Eager
set_option maxHeartbeats 2000000
set_option maxRecDepth 20000
set_option linter.unusedVariables false
set_option linter.unusedSimpArgs false


def busyD (l : List Pd) : List Nat := (l.filter fun p => decide (p.sess ≠ 0)).map Pd.sess
theorem busy_yes {l : List Pd} {k : Nat} (h : k < l.length) (hp : l[k].sess ≠ 0) : busyD (l.take (k + 1)) = busyD (l.take k) ++ [l[k].sess] := by
  rw [List.take_succ_eq_append_getElem h]; unfold busyD
  rw [List.filter_append]; simp [hp]
theorem busy_no {l : List Pd} {k : Nat} (h : k < l.length) (hp : l[k].sess = 0) : busyD (l.take (k + 1)) = busyD (l.take k) := by
  rw [List.take_succ_eq_append_getElem h]; unfold busyD
  rw [List.filter_append]; simp [hp]
theorem busy_le (l : List Pd) (k : Nat) : (busyD (l.take k)).length ≤ l.length := by
  unfold busyD
  rw [List.length_map]
  refine Nat.le_trans (List.length_filter_le _ _) ?_; simp; omega

theorem busy18 (l : List Pd) (w : World) (oa : Option Addr) (n c : Nat) (h : Rws Pd.cells w oa n c l) (hl : l.length ≤ 900) :
    Calls Try.prog 18 #[.slice oa n c] w (U64sOut w (busyD l)) := by
  obtain rfl : n = l.length := h.rows.len
  have H := Lib.hid h; have HL := Lib.hid hl; clear h hl
  go_enter Try.func18, Try.ntmps18
  go_wp2
  go_loopw [3, 5, 8] (fun v _ u wr => ∃ k : Nat, k ≤ l.length ∧ u = .int .i64 k ∧ Hid (Own wr w.heap.size 23 1 v (busyD (l.take k)).length ((busyD (l.take k)).flatMap U64C)) ∧ Hid (Below w.heap.size w wr)) (fun _ _ u _ => l.length - (intOf u).toNat)
  case atStart => exact ⟨0, by omega, rfl, Lib.hid (Own.nil _ _ _ _), by (with_reducible try refine Lib.hid ?_); (repeat (with_reducible first | assumption | exact Below.refl _ _ | apply Below.drew | apply Below.drewN' | apply Below.setCell | apply Below.alloc)) <;> (try simp [length_fillTo, length_turnTo]) <;> (try omega)⟩
  case round =>
    obtain ⟨k, hk, rfl, hO, hB⟩ := hrel
    by_cases hlt : k < l.length
    · have hi1 : (k : Int) < (l.length : Int) := by omega
      have rk : IntKind.i64.wrap ((k : Int) + 1) = ((k + 1 : Nat) : Int) := by
        have h1 := HL.out
        rw [IntKind.wrap_i64]; omega
      obtain ⟨b1, p1, rfl, hA⟩ := (H.out.below hB.out).rows.pd hlt
      have HY := Lib.hid (busy_yes hlt); have HN := Lib.hid (busy_no hlt)
      have HLEN : Hid ((busyD (l.take k)).length ≤ 900) := by show _ ≤ _; have := busy_le l k; have := HL.out; omega
      obtain ⟨s, hs⟩ : ∃ s, l[k] = s := ⟨_, rfl⟩
      rw [hs] at hA HY HN
      have HA := Lib.hid hA
      clear hs hA
      obtain ⟨L, hL⟩ : ∃ L, busyD (l.take k) = L := ⟨_, rfl⟩
      rw [hL] at hO HY HN HLEN
      clear hL
      obtain ⟨wA, rfl⟩ : ∃ x, x = wr := ⟨_, rfl⟩
      have hal : Below wA.heap.size wA (wA.alloc (.cells pd0.cells.toArray 32)) := (Below.refl _ _).alloc (Nat.le_refl _) _
      have hZ : Blk (wA.alloc (.cells pd0.cells.toArray 32)) wA.heap.size pd0.cells := Blk.new' rfl
      have HAL := Lib.hid hal; have HZ := Lib.hid hZ
      clear hal hZ
      go_wp2_with (refine stop_load (ty := 32) rfl ?_)
      refine ⟨wpList_load_at rfl rfl HA.out (by rfl) row32 ?_⟩
      go_wp2_with (refine stop_store (ty := 32) rfl ?_)
      refine ⟨wpList_store_blk rfl rfl HZ.out (by rfl) (vs := s.cells) (by rfl) row32 rfl (pd_one s) ?_⟩
      intro WW hX5 hg5
      have hbk5 := Below.grownB HAL.out hg5 (Nat.le_refl _) HAL.out.size
      have x5 : WW.cell? ⟨wA.heap.size, 5, none⟩ = some (.int .u64 s.sess) := pd_at hX5 5 (by omega)
      have hxl := hX5.lt
      have HO5 := Lib.hid (hO.out.later hbk5); have HB5 := Lib.hid (below_step hB.out hbk5)
      clear hX5 hg5 hbk5 HAL HZ HA hO hB
      by_cases h0 : s.sess = 0
      · have h0' : (s.sess : Int) = 0 := by omega
        have h0'' : ¬ (0 : Int) < (s.sess : Int) := by omega
        have HT := Lib.hid (HN.out h0)
        clear HN HY h0
        go_wp2_with fail
        go_roundw
        case measure => (simp [intOf]) <;> omega
        case rel => exact ⟨k + 1, by omega, rfl, Lib.hid (by rw [HT.out]; exact HO5.out), HB5⟩
      · have h0' : ¬ (s.sess : Int) = 0 := by omega
        have h0'' : (0 : Int) < (s.sess : Int) := by omega
        have HT := Lib.hid (HY.out h0)
        clear HN HY h0
        have hal : Below WW.heap.size WW (WW.alloc (.cells #[.int .u64 (s.sess : Int)] 23)) := (Below.refl _ _).alloc (Nat.le_refl _) _
        have HNW : Hid (Blk (WW.alloc (.cells #[.int .u64 (s.sess : Int)] 23)) WW.heap.size [.int .u64 (s.sess : Int)]) := Blk.new' rfl
        have x5b := cell_later x5 hal
        have hxl2 := Nat.lt_of_lt_of_le hxl hal.size
        have HO6 := Lib.hid (HO5.out.later hal); have HB6 := Lib.hid (below_step HB5.out hal)
        clear hal HO5 HB5 
        go_wp2_with (refine stop_append rfl ?_)
        have hlen := HLEN.out
        refine ⟨wpList_app el47 rfl (by rfl) (by rfl) HO6.out (by rfl) (m := 1) rfl HNW.out.cells (by simp [Value.oneCell']) (by simp [maxLen]; omega) (by omega) HB6.out.size ?_⟩
        intro v7 W7 hO7 hg7
        have hb7 := HO6.out.below hg7 HB6.out (Nat.le_refl _) HB6.out.size
        have HO7 := Lib.hid hO7; have HB7 := Lib.hid hb7
        try clear x5 hxl
        try clear x5b hxl2
        clear hO7 hg7 hb7 hlen HO6 HB6 HNW
        go_wp2_with fail
        go_roundw
        case measure => (simp [intOf]) <;> omega
        case rel => exact ⟨k + 1, by omega, rfl, Lib.hid (by rw [HT.out]; simpa [U64C] using HO7.out), HB7⟩
    · obtain rfl : k = l.length := by omega
      rw [List.take_length] at hO
      obtain ⟨o', c', rfl, hR⟩ := Own.rws hO.out rfl
      have HR := Lib.hid hR
      clear hO hR
      go_wp2
      refine bodyPost_ret (v := .slice o' (busyD l).length c') (by simp [results, Try.results18, go_sem]) rfl ⟨_, _, rfl, HR.out, hB.out⟩

theorem busy19 (l : List Pd) (w : World) (oa : Option Addr) (n c : Nat) (h : Rws Pd.cells w oa n c l) (hl : l.length ≤ 900) :
    Calls Try.prog 19 #[.slice oa n c] w (U64sOut w (busyD l)) := by
  obtain rfl : n = l.length := h.rows.len
  have H := Lib.hid h; have HL := Lib.hid hl; clear h hl
  go_enter Try.func19, Try.ntmps19
  go_wp2
  go_loopw [3, 4] (fun v u wr => ∃ k : Nat, k ≤ l.length ∧ u = .int .i64 k ∧ Hid (Own wr w.heap.size 23 1 v (busyD (l.take k)).length ((busyD (l.take k)).flatMap U64C)) ∧ Hid (Below w.heap.size w wr)) (fun _ u _ => l.length - (intOf u).toNat)
  case atStart => exact ⟨0, by omega, rfl, Lib.hid (Own.nil _ _ _ _), by (with_reducible try refine Lib.hid ?_); (repeat (with_reducible first | assumption | exact Below.refl _ _ | apply Below.drew | apply Below.drewN' | apply Below.setCell | apply Below.alloc)) <;> (try simp [length_fillTo, length_turnTo]) <;> (try omega)⟩
  case round =>
    obtain ⟨k, hk, rfl, hO, hB⟩ := hrel
    by_cases hlt : k < l.length
    · have hi1 : (k : Int) < (l.length : Int) := by omega
      have rk : IntKind.i64.wrap ((k : Int) + 1) = ((k + 1 : Nat) : Int) := by
        have h1 := HL.out
        rw [IntKind.wrap_i64]; omega
      obtain ⟨b1, p1, rfl, hA⟩ := (H.out.below hB.out).rows.pd hlt
      have HY := Lib.hid (busy_yes hlt); have HN := Lib.hid (busy_no hlt)
      have HLEN : Hid ((busyD (l.take k)).length ≤ 900) := by show _ ≤ _; have := busy_le l k; have := HL.out; omega
      obtain ⟨s, hs⟩ : ∃ s, l[k] = s := ⟨_, rfl⟩
      rw [hs] at hA HY HN
      have HA := Lib.hid hA
      clear hs hA
      obtain ⟨L, hL⟩ : ∃ L, busyD (l.take k) = L := ⟨_, rfl⟩
      rw [hL] at hO HY HN HLEN
      clear hL
      have x5 : wr.cell? ⟨b1, p1 + k * 23 + 5, none⟩ = some (.int .u64 s.sess) := HA.out.get 5 (by simp [Pd.cells])
      have hxl := HA.out.lt
      have HO5 := hO; have HB5 := hB
      clear hO hB HA
      obtain ⟨WW, rfl⟩ : ∃ x, x = wr := ⟨_, rfl⟩
      by_cases h0 : s.sess = 0
      · have h0' : (s.sess : Int) = 0 := by omega
        have h0'' : ¬ (0 : Int) < (s.sess : Int) := by omega
        have HT := Lib.hid (HN.out h0)
        clear HN HY h0
        go_wp2_with fail
        go_roundw
        case measure => (simp [intOf]) <;> omega
        case rel => exact ⟨k + 1, by omega, rfl, Lib.hid (by rw [HT.out]; exact HO5.out), HB5⟩
      · have h0' : ¬ (s.sess : Int) = 0 := by omega
        have h0'' : (0 : Int) < (s.sess : Int) := by omega
        have HT := Lib.hid (HY.out h0)
        clear HN HY h0
        have hal : Below WW.heap.size WW (WW.alloc (.cells #[.int .u64 (s.sess : Int)] 23)) := (Below.refl _ _).alloc (Nat.le_refl _) _
        have HNW : Hid (Blk (WW.alloc (.cells #[.int .u64 (s.sess : Int)] 23)) WW.heap.size [.int .u64 (s.sess : Int)]) := Blk.new' rfl
        have HO6 := Lib.hid (HO5.out.later hal); have HB6 := Lib.hid (below_step HB5.out hal)
        clear hal HO5 HB5
        go_wp2_with (refine stop_append rfl ?_)
        have hlen := HLEN.out
        refine ⟨wpList_app el47 rfl (by rfl) (by rfl) HO6.out (by rfl) (m := 1) rfl HNW.out.cells (by simp [Value.oneCell']) (by simp [maxLen]; omega) (by omega) HB6.out.size ?_⟩
        intro v7 W7 hO7 hg7
        have hb7 := HO6.out.below hg7 HB6.out (Nat.le_refl _) HB6.out.size
        have HO7 := Lib.hid hO7; have HB7 := Lib.hid hb7
        try clear x5 hxl
        try clear x5b hxl2
        clear hO7 hg7 hb7 hlen HO6 HB6 HNW
        go_wp2_with fail
        go_roundw
        case measure => (simp [intOf]) <;> omega
        case rel => exact ⟨k + 1, by omega, rfl, Lib.hid (by rw [HT.out]; simpa [U64C] using HO7.out), HB7⟩
    · obtain rfl : k = l.length := by omega
      rw [List.take_length] at hO
      obtain ⟨o', c', rfl, hR⟩ := Own.rws hO.out rfl
      have HR := Lib.hid hR
      clear hO hR
      go_wp2
      refine bodyPost_ret (v := .slice o' (busyD l).length c') (by simp [results, Try.results19, go_sem]) rfl ⟨_, _, rfl, HR.out, hB.out⟩

theorem refLost24 (l : List Pd) (n : Nat) (w : World) (oa : Option Addr) (m c : Nat) (h : Rws Pd.cells w oa m c l) (hl : l.length ≤ 900) :
    Calls Try.prog 24 #[.slice oa m c, .int .u64 n] w (IntsOut w (placesN (lostD n) l l.length)) := by
  obtain rfl : m = l.length := h.rows.len
  have H := Lib.hid h; have HL := Lib.hid hl; clear h hl
  go_enter Try.func24, Try.ntmps24
  go_wp2
  go_loopw [5, 6] (fun v u wr => ∃ k : Nat, k ≤ l.length ∧ u = .int .i64 k ∧ Hid (Own wr w.heap.size 3 1 v (placesN (lostD n) l k).length ((placesN (lostD n) l k).flatMap IntC)) ∧ Hid (Below w.heap.size w wr)) (fun _ u _ => l.length - (intOf u).toNat)
  case atStart => exact ⟨0, by omega, rfl, Lib.hid (Own.nil _ _ _ _), by (with_reducible try refine Lib.hid ?_); (repeat (with_reducible first | assumption | exact Below.refl _ _ | apply Below.drew | apply Below.drewN' | apply Below.setCell | apply Below.alloc)) <;> (try simp [length_fillTo, length_turnTo]) <;> (try omega)⟩
  case round =>
    obtain ⟨k, hk, rfl, hO, hB⟩ := hrel
    by_cases hlt : k < l.length
    · have hi1 : (k : Int) < (l.length : Int) := by omega
      have rk : IntKind.i64.wrap ((k : Int) + 1) = ((k + 1 : Nat) : Int) := by
        have h1 := HL.out
        rw [IntKind.wrap_i64]; omega
      obtain ⟨b1, p1, rfl, hA⟩ := (H.out.below hB.out).rows.pd hlt
      have HY := Lib.hid (places_yes (p := lostD n) hlt); have HN := Lib.hid (places_no (p := lostD n) hlt)
      have HLEN : Hid ((placesN (lostD n) l k).length ≤ 900) := by show _ ≤ _; have := places_le (lostD n) l k; have := HL.out; omega
      obtain ⟨s, hs⟩ : ∃ s, l[k] = s := ⟨_, rfl⟩
      rw [hs] at hA HY HN
      have HV : Hid (lostD n s = (decide (n ≠ 0) && decide (s.sess = n))) := rfl
      have x5 : wr.cell? ⟨b1, p1 + k * 23 + 5, none⟩ = some (.int .u64 s.sess) := hA.get 5 (by simp [Pd.cells])
      have hxl := hA.lt
      clear hs hA
      obtain ⟨L, hL⟩ : ∃ L, placesN (lostD n) l k = L := ⟨_, rfl⟩
      rw [hL] at hO HY HN HLEN
      have HO5 := hO; have HB5 := hB
      clear hL hO hB
      obtain ⟨WW, rfl⟩ : ∃ x, x = wr := ⟨_, rfl⟩
      by_cases h0 : n = 0
      · have h0' : ¬ (0 : Int) < (n : Int) := by omega
        have HT := Lib.hid (HN.out (by rw [HV.out]; simp [h0]))
        clear HN HY h0 HV
        go_wp2_with fail
        go_roundw
        case measure => (simp [intOf]) <;> omega
        case rel => exact ⟨k + 1, by omega, rfl, Lib.hid (by rw [HT.out]; exact HO5.out), HB5⟩
      · have h0' : (0 : Int) < (n : Int) := by omega
        by_cases h1 : s.sess = n
        · have h1' : (s.sess : Int) = (n : Int) := by omega
          have HT := Lib.hid (HY.out (by rw [HV.out]; simp [h0, h1]))
          clear HN HY h0 HV h1
          have hal : Below WW.heap.size WW (WW.alloc (.cells #[.int .i64 (k : Int)] 3)) := (Below.refl _ _).alloc (Nat.le_refl _) _
          have HNW : Hid (Blk (WW.alloc (.cells #[.int .i64 (k : Int)] 3)) WW.heap.size [.int .i64 (k : Int)]) := Blk.new' rfl
          have x5b := cell_later x5 hal
          have hxl2 := Nat.lt_of_lt_of_le hxl hal.size
          have HO6 := Lib.hid (HO5.out.later hal); have HB6 := Lib.hid (below_step HB5.out hal)
          clear hal HO5 HB5
          go_wp2_with (refine stop_append rfl ?_)
          have hlen := HLEN.out
          refine ⟨wpList_app el51 rfl (by rfl) (by rfl) HO6.out (by rfl) (m := 1) rfl HNW.out.cells (by simp [Value.oneCell']) (by simp [maxLen]; omega) (by omega) HB6.out.size ?_⟩
          intro v7 W7 hO7 hg7
          have hb7 := HO6.out.below hg7 HB6.out (Nat.le_refl _) HB6.out.size
          have HO7 := Lib.hid hO7; have HB7 := Lib.hid hb7
          clear x5 hxl x5b hxl2
          clear hO7 hg7 hb7 hlen HO6 HB6 HNW
          go_wp2_with fail
          go_roundw
          case measure => (simp [intOf]) <;> omega
          case rel => exact ⟨k + 1, by omega, rfl, Lib.hid (by rw [HT.out]; simpa [IntC] using HO7.out), HB7⟩
        · have h1' : ¬ (s.sess : Int) = (n : Int) := by omega
          have HT := Lib.hid (HN.out (by rw [HV.out]; simp [h1]))
          clear HN HY h0 HV h1
          go_wp2_with fail
          go_roundw
          case measure => (simp [intOf]) <;> omega
          case rel => exact ⟨k + 1, by omega, rfl, Lib.hid (by rw [HT.out]; exact HO5.out), HB5⟩
    · obtain rfl : k = l.length := by omega
      obtain ⟨o', c', rfl, hR⟩ := Own.rws hO.out rfl
      have HR := Lib.hid hR
      clear hO hR
      go_wp2
      refine bodyPost_ret (v := .slice o' (placesN (lostD n) l l.length).length c') (by simp [results, Try.results24, go_sem]) rfl ⟨_, _, rfl, HR.out, hB.out⟩

theorem refWaits26 (l : List Pd) (e : En) (w : World) (oa : Option Addr) (m c : Nat) (h : Rws Pd.cells w oa m c l) (hl : l.length ≤ 900) :
    Calls Try.prog 26 #[.slice oa m c, .agg e.cells.toArray] w (IntsOut w (placesN (waitD e) l l.length)) := by
  obtain rfl : m = l.length := h.rows.len
  have hal : Below w.heap.size w (w.alloc (.cells e.cells.toArray 25)) := (Below.refl _ _).alloc (Nat.le_refl _) _
  have hX : Blk (w.alloc (.cells e.cells.toArray 25)) w.heap.size e.cells := Blk.new' rfl
  have HB := Lib.hid hal; have HX := Lib.hid hX; have H := Lib.hid h; have HL := Lib.hid hl
  clear hal hX h hl
  go_enter Try.func26, Try.ntmps26
  go_wp2_with fail
  go_loopw [5, 6] (fun v u wr => ∃ k : Nat, k ≤ l.length ∧ u = .int .i64 k ∧ Hid (Own wr (w.heap.size + 1) 3 1 v (placesN (waitD e) l k).length ((placesN (waitD e) l k).flatMap IntC)) ∧ Hid (Blk wr w.heap.size e.cells) ∧ Hid (Below w.heap.size w wr)) (fun _ u _ => l.length - (intOf u).toNat)
  case atStart => exact ⟨0, by omega, rfl, Lib.hid (Own.nil _ _ _ _), HX, HB⟩
  case round =>
    obtain ⟨k, hk, rfl, hO, hY, hB⟩ := hrel
    by_cases hlt : k < l.length
    · have hi1 : (k : Int) < (l.length : Int) := by omega
      have rk : IntKind.i64.wrap ((k : Int) + 1) = ((k + 1 : Nat) : Int) := by
        have h1 := HL.out
        rw [IntKind.wrap_i64]; omega
      obtain ⟨b1, p1, rfl, hA⟩ := (H.out.below hB.out).rows.pd hlt
      have HY := Lib.hid (places_yes (p := waitD e) hlt); have HN := Lib.hid (places_no (p := waitD e) hlt)
      have HLEN : Hid ((placesN (waitD e) l k).length ≤ 900) := by show _ ≤ _; have := places_le (waitD e) l k; have := HL.out; omega
      obtain ⟨s, hs⟩ : ∃ s, l[k] = s := ⟨_, rfl⟩
      rw [hs] at hA HY HN
      have HA := Lib.hid hA
      clear hs hA
      obtain ⟨L, hL⟩ : ∃ L, placesN (waitD e) l k = L := ⟨_, rfl⟩
      rw [hL] at hO HY HN HLEN
      clear hL
      obtain ⟨wA, rfl⟩ : ∃ x, x = wr := ⟨_, rfl⟩
      by_cases h1 : s.sess = 0
      · have G1 : Hid (s.sess = 0) := h1
        clear h1
        go_wp2_with fail
        refine wp_region_plan none [] [] (.take 0 (.take 1 (.take 2 (.take 3 (.take 4 (.take 5 (.take 6 (.take 7 (.take 8 (.take 9 (.take 10 (.take 11 (.take 12 (.one 13 (.take 14 .done))))))))))))))) (by kernel_rfl) (by kernel_rfl) (fun _ _ dd _ _ h => by cases dd <;> exact h) ?_
        intro W0 hW0
        have hY0 : Blk W0 w.heap.size e.cells := by rw [hW0]; exact hY.out.drew
        have hbW : Below w.heap.size w W0 := by rw [hW0]; exact hB.out.drew
        have hO0 := hO.out.later (below_drew wA)
        have f0 := HA.out.later (below_drew wA)
        rw [← hW0] at f0 hO0
        clear hW0
        (refine pl_take (d := 13) (v := ?_) rfl rfl rfl ?_ ?_; rotate_left; (focus ((intro w' hb0 hw'; go_simp) <;> with_reducible rfl)); simp only [Act.put, List.setIfInBounds_toArray, List.set_cons_zero, List.set_cons_succ])
        (refine pl_take (d := 14) (v := ?_) rfl rfl rfl ?_ ?_; rotate_left; (focus ((intro w' hb0 hw'; go_simp) <;> with_reducible rfl)); simp only [Act.put, List.setIfInBounds_toArray, List.set_cons_zero, List.set_cons_succ])
        (refine pl_take (d := 15) (v := ?_) rfl rfl rfl ?_ ?_; rotate_left; (focus ((intro w' hb0 hw'; go_simp) <;> with_reducible rfl)); simp only [Act.put, List.setIfInBounds_toArray, List.set_cons_zero, List.set_cons_succ])
        (refine pl_take (d := 16) (v := ?_) rfl rfl rfl ?_ ?_; rotate_left; (focus ((intro w' hb0 hw'; go_simp) <;> with_reducible rfl)); simp only [Act.put, List.setIfInBounds_toArray, List.set_cons_zero, List.set_cons_succ])
        (refine pl_take (d := 17) (v := ?_) rfl rfl rfl ?_ ?_; rotate_left; (focus ((intro w' hb0 hw'; have x5 : w'.cell? ⟨b1, p1 + k * 23 + 5, none⟩ = some (.int .u64 s.sess) := (f0.later hw').get 5 (by simp [Pd.cells]); go_simp) <;> with_reducible rfl)); simp only [Act.put, List.setIfInBounds_toArray, List.set_cons_zero, List.set_cons_succ])
        refine pl_take (d := 18) (v := .bool true) rfl rfl rfl ?_ ?_
        · intro w' hb0 hw'
          have hh := G1.out
          go_simp
          (try omega)
        simp only [Act.put, List.setIfInBounds_toArray, List.set_cons_zero, List.set_cons_succ]
        (refine pl_take (d := 19) (v := ?_) rfl rfl rfl ?_ ?_; rotate_left; (focus ((intro w' hb0 hw'; go_simp) <;> with_reducible rfl)); simp only [Act.put, List.setIfInBounds_toArray, List.set_cons_zero, List.set_cons_succ])
        (refine pl_take (d := 20) (v := ?_) rfl rfl rfl ?_ ?_; rotate_left; (focus ((intro w' hb0 hw'; go_simp) <;> with_reducible rfl)); simp only [Act.put, List.setIfInBounds_toArray, List.set_cons_zero, List.set_cons_succ])
        (refine pl_take (d := 21) (v := ?_) rfl rfl rfl ?_ ?_; rotate_left; (focus ((intro w' hb0 hw'; go_simp) <;> with_reducible rfl)); simp only [Act.put, List.setIfInBounds_toArray, List.set_cons_zero, List.set_cons_succ])
        (refine pl_take (d := 22) (v := ?_) rfl rfl rfl ?_ ?_; rotate_left; (focus ((intro w' hb0 hw'; go_simp) <;> with_reducible rfl)); simp only [Act.put, List.setIfInBounds_toArray, List.set_cons_zero, List.set_cons_succ])
        (refine pl_take (d := 23) (v := ?_) rfl rfl rfl ?_ ?_; rotate_left; (focus ((intro w' hb0 hw'; go_simp) <;> with_reducible rfl)); simp only [Act.put, List.setIfInBounds_toArray, List.set_cons_zero, List.set_cons_succ])
        refine pl_take (d := 24) (v := .agg s.to.cells.toArray) rfl rfl rfl ?_ ?_
        · intro w' hb0 hw'
          exact run_load_at rfl ((f0.later hw').to) (by rfl) row25
        simp only [Act.put, List.setIfInBounds_toArray, List.set_cons_zero, List.set_cons_succ]
        refine pl_take (d := 25) (v := .agg e.cells.toArray) rfl rfl rfl ?_ ?_
        · intro w' hb0 hw'
          exact run_load_blk rfl (hY0.later hw') (by rfl) row25
        simp only [Act.put, List.setIfInBounds_toArray, List.set_cons_zero, List.set_cons_succ]
        refine pl_one rfl rfl (fun K hK => ?_)
        go_simp
        refine (refWho43 s.to e W0).mono ?_
        rintro r W1 ⟨rfl, hbk⟩
        refine hK _ _ (hbk : Rel none W0 W1) ?_
        clear hK
        replace hY0 := hY0.later hbk; replace hbW := below_step hbW hbk; replace hO0 := hO0.later hbk
        clear hbk f0
        (refine pl_take (d := 27) (v := ?_) rfl rfl rfl ?_ ?_; rotate_left; (focus ((intro w' hb0 hw'; go_simp) <;> with_reducible rfl)); simp only [Act.put, List.setIfInBounds_toArray, List.set_cons_zero, List.set_cons_succ])
        refine pl_end ?_
        have HY0 := Lib.hid hY0; have HB5 := Lib.hid hbW; have HO5 := Lib.hid hO0
        clear hY0 hbW hO0 hO hB
        generalize W1 = WW at *
        cases hwh : whoD s.to e
        · have HT := Lib.hid (HN.out (by unfold waitD; simp [G1.out, hwh]))
          clear HN HY hwh
          go_wp2_with fail
          go_roundw
          case measure => (simp [intOf]) <;> omega
          case rel => exact ⟨k + 1, by omega, rfl, Lib.hid (by rw [HT.out]; exact HO5.out), HY0, HB5⟩
        · have HT := Lib.hid (HY.out (by unfold waitD; simp [G1.out, hwh]))
          clear HN HY hwh
          have hal : Below WW.heap.size WW (WW.alloc (.cells #[.int .i64 (k : Int)] 3)) := (Below.refl _ _).alloc (Nat.le_refl _) _
          have HNW : Hid (Blk (WW.alloc (.cells #[.int .i64 (k : Int)] 3)) WW.heap.size [.int .i64 (k : Int)]) := Blk.new' rfl
          have HY6 := Lib.hid (HY0.out.later hal)
          have HO6 := Lib.hid (HO5.out.later hal); have HB6 := Lib.hid (below_step HB5.out hal)
          clear hal HO5 HB5
          have HSZ : w.heap.size + 1 ≤ (WW.alloc (.cells #[.int .i64 (k : Int)] 3)).heap.size := HY6.out.lt
          go_wp2_with (refine stop_append rfl ?_)
          have hlen := HLEN.out
          refine ⟨wpList_app el51 rfl (by rfl) (by rfl) HO6.out (by rfl) (m := 1) rfl HNW.out.cells (by simp [Value.oneCell']) (by simp [maxLen]; omega) (by omega) HSZ ?_⟩
          intro v7 W7 hO7 hg7
          have hb7 := HO6.out.below hg7 HB6.out (Nat.le_succ _) HSZ
          have hY7 := HY6.out.grown hg7 (fun e => absurd (HO6.out.row.lt _ e).1 (by omega))
          have HY7 := Lib.hid hY7
          have HO7 := Lib.hid hO7; have HB7 := Lib.hid hb7
          clear hY7 HY6 hO7 hg7 hb7 hlen HO6 HB6 HNW
          go_wp2_with fail
          go_roundw
          case measure => (simp [intOf]) <;> omega
          case rel => exact ⟨k + 1, by omega, rfl, Lib.hid (by rw [HT.out]; simpa [IntC] using HO7.out), HY7, HB7⟩
      · have HT := Lib.hid (HN.out (by unfold waitD; simp [h1]))
        have G1 : Hid (¬ s.sess = 0) := h1
        clear HN HY h1
        go_wp2_with fail
        refine wp_region_plan none [] [] (.take 0 (.take 1 (.take 2 (.take 3 (.take 4 (.take 5 (.take 6 (.take 7 (.take 8 (.take 9 (.take 10 (.take 11 (.take 12 (.one 13 (.take 14 .done))))))))))))))) (by kernel_rfl) (by kernel_rfl) (fun _ _ dd _ _ h => by cases dd <;> exact h) ?_
        intro W0 hW0
        have hY0 : Blk W0 w.heap.size e.cells := by rw [hW0]; exact hY.out.drew
        have hbW : Below w.heap.size w W0 := by rw [hW0]; exact hB.out.drew
        have hO0 := hO.out.later (below_drew wA)
        have f0 := HA.out.later (below_drew wA)
        rw [← hW0] at f0 hO0
        clear hW0
        (refine pl_take (d := 13) (v := ?_) rfl rfl rfl ?_ ?_; rotate_left; (focus ((intro w' hb0 hw'; go_simp) <;> with_reducible rfl)); simp only [Act.put, List.setIfInBounds_toArray, List.set_cons_zero, List.set_cons_succ])
        (refine pl_take (d := 14) (v := ?_) rfl rfl rfl ?_ ?_; rotate_left; (focus ((intro w' hb0 hw'; go_simp) <;> with_reducible rfl)); simp only [Act.put, List.setIfInBounds_toArray, List.set_cons_zero, List.set_cons_succ])
        (refine pl_take (d := 15) (v := ?_) rfl rfl rfl ?_ ?_; rotate_left; (focus ((intro w' hb0 hw'; go_simp) <;> with_reducible rfl)); simp only [Act.put, List.setIfInBounds_toArray, List.set_cons_zero, List.set_cons_succ])
        (refine pl_take (d := 16) (v := ?_) rfl rfl rfl ?_ ?_; rotate_left; (focus ((intro w' hb0 hw'; go_simp) <;> with_reducible rfl)); simp only [Act.put, List.setIfInBounds_toArray, List.set_cons_zero, List.set_cons_succ])
        (refine pl_take (d := 17) (v := ?_) rfl rfl rfl ?_ ?_; rotate_left; (focus ((intro w' hb0 hw'; have x5 : w'.cell? ⟨b1, p1 + k * 23 + 5, none⟩ = some (.int .u64 s.sess) := (f0.later hw').get 5 (by simp [Pd.cells]); go_simp) <;> with_reducible rfl)); simp only [Act.put, List.setIfInBounds_toArray, List.set_cons_zero, List.set_cons_succ])
        refine pl_take (d := 18) (v := .bool false) rfl rfl rfl ?_ ?_
        · intro w' hb0 hw'
          have hh := G1.out
          go_simp
          (try omega)
        simp only [Act.put, List.setIfInBounds_toArray, List.set_cons_zero, List.set_cons_succ]
        (refine pl_take (d := 19) (v := ?_) rfl rfl rfl ?_ ?_; rotate_left; (focus ((intro w' hb0 hw'; go_simp) <;> with_reducible rfl)); simp only [Act.put, List.setIfInBounds_toArray, List.set_cons_zero, List.set_cons_succ])
        (refine pl_skip (d := 20) rfl rfl rfl ?_; simp only [Act.put, List.setIfInBounds_toArray, List.set_cons_zero, List.set_cons_succ])
        (refine pl_skip (d := 21) rfl rfl rfl ?_; simp only [Act.put, List.setIfInBounds_toArray, List.set_cons_zero, List.set_cons_succ])
        (refine pl_skip (d := 22) rfl rfl rfl ?_; simp only [Act.put, List.setIfInBounds_toArray, List.set_cons_zero, List.set_cons_succ])
        (refine pl_skip (d := 23) rfl rfl rfl ?_; simp only [Act.put, List.setIfInBounds_toArray, List.set_cons_zero, List.set_cons_succ])
        (refine pl_skip (d := 24) rfl rfl rfl ?_; simp only [Act.put, List.setIfInBounds_toArray, List.set_cons_zero, List.set_cons_succ])
        (refine pl_skip (d := 25) rfl rfl rfl ?_; simp only [Act.put, List.setIfInBounds_toArray, List.set_cons_zero, List.set_cons_succ])
        (refine pl_skip1 (d := 26) rfl rfl rfl ?_; simp only [Act.put, List.setIfInBounds_toArray, List.set_cons_zero, List.set_cons_succ])
        (refine pl_take (d := 27) (v := ?_) rfl rfl rfl ?_ ?_; rotate_left; (focus ((intro w' hb0 hw'; go_simp) <;> with_reducible rfl)); simp only [Act.put, List.setIfInBounds_toArray, List.set_cons_zero, List.set_cons_succ])
        refine pl_end ?_
        clear f0
        have HY0 := Lib.hid hY0; have HB5 := Lib.hid hbW; have HO5 := Lib.hid hO0
        clear hY0 hbW hO0 hO hB
        go_wp2_with fail
        go_roundw
        case measure => (simp [intOf]) <;> omega
        case rel => exact ⟨k + 1, by omega, rfl, Lib.hid (by rw [HT.out]; exact HO5.out), HY0, HB5⟩
    · obtain rfl : k = l.length := by omega
      obtain ⟨o', c', rfl, hR⟩ := Own.rws hO.out rfl
      have HR := Lib.hid hR
      clear hO hR
      go_wp2
      refine bodyPost_ret (v := .slice o' (placesN (waitD e) l l.length).length c') (by simp [results, Try.results26, go_sem]) rfl ⟨_, _, rfl, HR.out, hB.out⟩

theorem RowsOf.num {f : Nat → List Value} (hf : ∀ a, (f a).length = 1) {w : World} {oa : Option Addr} {n : Nat} {l : List Nat} (h : RowsOf f w oa n l) {i : Nat} (hi : i < l.length) : ∃ b o, oa = some ⟨b, o, none⟩ ∧ At w b (o + i) (f l[i]) := by
  obtain ⟨b, o, e, hA⟩ := h.at_ (k := 1) hf (by omega) hi
  exact ⟨b, o, e, by simpa using hA⟩
theorem ints22 (a b : List Nat) (w : World) (o1 o2 : Option Addr) (n1 n2 c1 c2 : Nat) (h1 : Rws IntC w o1 n1 c1 a) (h2 : Rws IntC w o2 n2 c2 b) :
    Calls Try.prog 22 #[.slice o1 n1 c1, .slice o2 n2 c2] w fun r w' => r = .returned (.bool (decide (a = b))) ∧ Below w.heap.size w w' := by
  obtain rfl : n1 = a.length := h1.rows.len
  obtain rfl : n2 = b.length := h2.rows.len
  have H1 := Lib.hid h1; have H2 := Lib.hid h2; clear h1 h2
  by_cases hlen : a.length = b.length
  · have hlen' : ((a.length : Int) != (b.length : Int)) = false := by simp; omega
    have HLEN := Lib.hid hlen
    clear hlen
    go_enter Try.func22, Try.ntmps22
    go_wp2
    clear hlen'
    go_loopw [5, 13] (fun _ u wr => ∃ i : Nat, i ≤ a.length ∧ u = .int .i64 i ∧ Hid (a.take i = b.take i) ∧ Hid (Below w.heap.size w wr)) (fun _ u _ => a.length - (intOf u).toNat)
    case atStart => exact ⟨0, by omega, rfl, Lib.hid rfl, by (with_reducible try refine Lib.hid ?_); (repeat (with_reducible first | assumption | exact Below.refl _ _ | apply Below.drew | apply Below.drewN' | apply Below.setCell | apply Below.alloc)) <;> (try simp [length_fillTo, length_turnTo]) <;> (try omega)⟩
    case round =>
      obtain ⟨i, hk, rfl, hS, hbel⟩ := hrel
      by_cases hlt : i < a.length
      · have hlt2 : i < b.length := by have := HLEN.out; omega
        have hi1 : (i : Int) < (a.length : Int) := by omega
        have hi2 : (i : Int) < (b.length : Int) := by omega
        have rk : IntKind.i64.wrap ((i : Int) + 1) = ((i + 1 : Nat) : Int) := by
          have h1 := H1.out.le; have h2 := H1.out.cap
          simp only [maxLen] at h2
          rw [IntKind.wrap_i64]; omega
        obtain ⟨b1, p1, rfl, hA⟩ := (H1.out.below hbel.out).rows.num (fun _ => rfl) hlt
        obtain ⟨b2, p2, rfl, hD⟩ := (H2.out.below hbel.out).rows.num (fun _ => rfl) hlt2
        have HN : Hid (a[i] ≠ b[i] → decide (a = b) = false) := fun h => decide_eq_false (list_ne hlt hlt2 h)
        have HT : Hid (a[i] = b[i] → a.take (i + 1) = b.take (i + 1)) := fun h => take_eq hlt hlt2 h hS.out
        obtain ⟨s, hs⟩ : ∃ q, a[i] = q := ⟨_, rfl⟩
        obtain ⟨t, ht⟩ : ∃ q, b[i] = q := ⟨_, rfl⟩
        rw [hs] at hA HN HT; rw [ht] at hD HN HT
        have HA := Lib.hid hA; have HD := Lib.hid hD
        have hxl1 := hA.lt; have hxl2 := hD.lt
        clear hs ht hA hD
        obtain ⟨wA, rfl⟩ : ∃ x, x = wr := ⟨_, rfl⟩
        by_cases hq : s = t
        · have HT3 := Lib.hid (HT.out hq)
          have HEQ : Hid ((s : Int) = (t : Int)) := by show _ = _; omega
          clear HT HN hq
          go_wp2_with fail
          refine wp_region_plan none [] [] (.take 0 (.take 1 (.take 2 (.take 3 (.take 4 (.take 5 (.take 6 (.take 7 (.take 8 .done))))))))) (by kernel_rfl) (by kernel_rfl) (fun _ _ dd _ _ h => by cases dd <;> exact h) ?_
          intro W0 hW0
          have hbW : Below w.heap.size w W0 := by rw [hW0]; exact hbel.out.drew
          have hab : Below wA.heap.size wA W0 := by rw [hW0]; exact below_drew wA
          clear hW0
          (refine pl_take (d := 16) (v := ?_) rfl rfl rfl ?_ ?_; rotate_left; (focus ((intro w' hb0 hw'; go_simp) <;> with_reducible rfl)); simp only [Act.put, List.setIfInBounds_toArray, List.set_cons_zero, List.set_cons_succ])
          (refine pl_take (d := 17) (v := ?_) rfl rfl rfl ?_ ?_; rotate_left; (focus ((intro w' hb0 hw'; go_simp) <;> with_reducible rfl)); simp only [Act.put, List.setIfInBounds_toArray, List.set_cons_zero, List.set_cons_succ])
          (refine pl_take (d := 18) (v := ?_) rfl rfl rfl ?_ ?_; rotate_left; (focus ((intro w' hb0 hw'; go_simp) <;> with_reducible rfl)); simp only [Act.put, List.setIfInBounds_toArray, List.set_cons_zero, List.set_cons_succ])
          (refine pl_take (d := 19) (v := ?_) rfl rfl rfl ?_ ?_; rotate_left; (focus ((intro w' hb0 hw'; have q1 : w'.cell? ⟨b1, p1 + i, none⟩ = some (.int .i64 (s : Int)) := (HA.out.later (below_step hab hw')).get 0 (by simp [IntC]); go_simp) <;> with_reducible rfl)); simp only [Act.put, List.setIfInBounds_toArray, List.set_cons_zero, List.set_cons_succ])
          (refine pl_take (d := 20) (v := ?_) rfl rfl rfl ?_ ?_; rotate_left; (focus ((intro w' hb0 hw'; go_simp) <;> with_reducible rfl)); simp only [Act.put, List.setIfInBounds_toArray, List.set_cons_zero, List.set_cons_succ])
          (refine pl_take (d := 21) (v := ?_) rfl rfl rfl ?_ ?_; rotate_left; (focus ((intro w' hb0 hw'; go_simp) <;> with_reducible rfl)); simp only [Act.put, List.setIfInBounds_toArray, List.set_cons_zero, List.set_cons_succ])
          (refine pl_take (d := 22) (v := ?_) rfl rfl rfl ?_ ?_; rotate_left; (focus ((intro w' hb0 hw'; go_simp) <;> with_reducible rfl)); simp only [Act.put, List.setIfInBounds_toArray, List.set_cons_zero, List.set_cons_succ])
          (refine pl_take (d := 23) (v := ?_) rfl rfl rfl ?_ ?_; rotate_left; (focus ((intro w' hb0 hw'; have q2 : w'.cell? ⟨b2, p2 + i, none⟩ = some (.int .i64 (t : Int)) := (HD.out.later (below_step hab hw')).get 0 (by simp [IntC]); go_simp) <;> with_reducible rfl)); simp only [Act.put, List.setIfInBounds_toArray, List.set_cons_zero, List.set_cons_succ])
          refine pl_take (d := 24) (v := .bool false) rfl rfl rfl ?_ ?_
          · intro w' hb0 hw'
            have he := HEQ.out
            go_simp
            (try omega)
          simp only [Act.put, List.setIfInBounds_toArray, List.set_cons_zero, List.set_cons_succ]
          refine pl_end ?_
          go_wp2_with fail
          go_roundw
          case measure => (simp [intOf]) <;> omega
          case rel => exact ⟨i + 1, by omega, rfl, HT3, Lib.hid hbW⟩
        · have HN3 := Lib.hid (HN.out hq)
          have HNE : Hid (¬ (s : Int) = (t : Int)) := by show ¬ _; omega
          clear HN HT hq
          go_wp2_with fail
          refine wp_region_plan none [] [] (.take 0 (.take 1 (.take 2 (.take 3 (.take 4 (.take 5 (.take 6 (.take 7 (.take 8 .done))))))))) (by kernel_rfl) (by kernel_rfl) (fun _ _ dd _ _ h => by cases dd <;> exact h) ?_
          intro W0 hW0
          have hbW : Below w.heap.size w W0 := by rw [hW0]; exact hbel.out.drew
          have hab : Below wA.heap.size wA W0 := by rw [hW0]; exact below_drew wA
          clear hW0
          (refine pl_take (d := 16) (v := ?_) rfl rfl rfl ?_ ?_; rotate_left; (focus ((intro w' hb0 hw'; go_simp) <;> with_reducible rfl)); simp only [Act.put, List.setIfInBounds_toArray, List.set_cons_zero, List.set_cons_succ])
          (refine pl_take (d := 17) (v := ?_) rfl rfl rfl ?_ ?_; rotate_left; (focus ((intro w' hb0 hw'; go_simp) <;> with_reducible rfl)); simp only [Act.put, List.setIfInBounds_toArray, List.set_cons_zero, List.set_cons_succ])
          (refine pl_take (d := 18) (v := ?_) rfl rfl rfl ?_ ?_; rotate_left; (focus ((intro w' hb0 hw'; go_simp) <;> with_reducible rfl)); simp only [Act.put, List.setIfInBounds_toArray, List.set_cons_zero, List.set_cons_succ])
          (refine pl_take (d := 19) (v := ?_) rfl rfl rfl ?_ ?_; rotate_left; (focus ((intro w' hb0 hw'; have q1 : w'.cell? ⟨b1, p1 + i, none⟩ = some (.int .i64 (s : Int)) := (HA.out.later (below_step hab hw')).get 0 (by simp [IntC]); go_simp) <;> with_reducible rfl)); simp only [Act.put, List.setIfInBounds_toArray, List.set_cons_zero, List.set_cons_succ])
          (refine pl_take (d := 20) (v := ?_) rfl rfl rfl ?_ ?_; rotate_left; (focus ((intro w' hb0 hw'; go_simp) <;> with_reducible rfl)); simp only [Act.put, List.setIfInBounds_toArray, List.set_cons_zero, List.set_cons_succ])
          (refine pl_take (d := 21) (v := ?_) rfl rfl rfl ?_ ?_; rotate_left; (focus ((intro w' hb0 hw'; go_simp) <;> with_reducible rfl)); simp only [Act.put, List.setIfInBounds_toArray, List.set_cons_zero, List.set_cons_succ])
          (refine pl_take (d := 22) (v := ?_) rfl rfl rfl ?_ ?_; rotate_left; (focus ((intro w' hb0 hw'; go_simp) <;> with_reducible rfl)); simp only [Act.put, List.setIfInBounds_toArray, List.set_cons_zero, List.set_cons_succ])
          (refine pl_take (d := 23) (v := ?_) rfl rfl rfl ?_ ?_; rotate_left; (focus ((intro w' hb0 hw'; have q2 : w'.cell? ⟨b2, p2 + i, none⟩ = some (.int .i64 (t : Int)) := (HD.out.later (below_step hab hw')).get 0 (by simp [IntC]); go_simp) <;> with_reducible rfl)); simp only [Act.put, List.setIfInBounds_toArray, List.set_cons_zero, List.set_cons_succ])
          refine pl_take (d := 24) (v := .bool true) rfl rfl rfl ?_ ?_
          · intro w' hb0 hw'
            have he := HNE.out
            go_simp
            (try omega)
          simp only [Act.put, List.setIfInBounds_toArray, List.set_cons_zero, List.set_cons_succ]
          refine pl_end ?_
          go_wp2
          refine bodyPost_ret (v := .bool false) (by simp [results, Try.results22, go_sem]) rfl ⟨by rw [HN3.out], hbW⟩
      · obtain rfl : i = a.length := by omega
        have HT : Hid (decide (a = b) = true) := by
          have h := hS.out
          rw [List.take_length, HLEN.out, List.take_length] at h
          exact decide_eq_true h
        have hb1 := hbel.out
        clear hS hbel
        go_wp2
        refine bodyPost_ret (v := .bool true) (by simp [results, Try.results22, go_sem]) rfl ⟨by rw [HT.out], hb1⟩
  · have hlen' : ¬ (a.length : Int) = (b.length : Int) := by omega
    have HN : Hid (decide (a = b) = false) := decide_eq_false (fun e => hlen (congrArg List.length e))
    clear hlen
    go_enter Try.func22, Try.ntmps22
    go_wp2
    refine bodyPost_ret (v := .bool false) (by simp [results, Try.results22, go_sem]) rfl ⟨by rw [HN.out], Below.refl _ _⟩
end Go.Proofs.Ytmbakknpnilooaa
