/-
  Walks of the document's numbers: what stands from 2^130 on.
-/
import Derived.Test.YtlheepcojeaeaaaXd
namespace Go.Proofs.Ytlheepcojeaeaaa
open Go.RowKit
set_option maxHeartbeats 1000000
set_option linter.unusedVariables false
set_option linter.unusedSimpArgs false

/-- what stands behind so many digits -/
def fSt (n : List Nat) (i j : Nat) : Nat :=
  ((if j < 16 then n.getD j 0 else if j = 16 then n.getD 16 0 % 4 else 0) + (if j = 0 ∧ 16 < i then n.getD 16 0 / 4 * 5 else 0)) + (if j + 17 < i then n.getD (j + 17) 0 * 64 * 5 else 0)
def fRow (n : List Nat) (i : Nat) : List Value := (List.range 24).map fun j => IV (fSt n i j)
theorem fRow_begin (n : List Nat) : (turnTo (fun i => IV (n.getD i 0)) (fun _ => IV 0) 17 24).set 16 (IV (n.getD 16 0 % 4)) = fRow n 16 := by
  apply List.ext_getElem
  · simp [turnTo, fRow]
  · intro j h1 h2
    have hj : j < 24 := by simpa [fRow] using h2
    simp only [turnTo, fRow, List.getElem_set, List.getElem_map, List.getElem_range, fSt]
    by_cases e : 16 = j
    · subst e; simp
    · rw [if_neg e]
      by_cases e2 : j < 16
      · rw [if_pos (by omega), if_pos e2, if_neg (by omega), if_neg (by omega)]; rfl
      · rw [if_neg (by omega), if_neg e2, if_neg (by omega), if_neg (by omega), if_neg (by omega)]
theorem fRow_first (n : List Nat) : (fRow n 16).set 0 (IV (n.getD 0 0 + n.getD 16 0 / 4 * 5)) = fRow n 17 := by
  apply List.ext_getElem
  · simp [fRow]
  · intro j h1 h2
    have hj : j < 24 := by simpa [fRow] using h2
    simp only [fRow, List.getElem_set, List.getElem_map, List.getElem_range, fSt]
    by_cases e : 0 = j
    · subst e; simp
    · rw [if_neg e]
      congr 1
      rw [if_neg (show ¬ (j = 0 ∧ 16 < 16) by omega), if_neg (show ¬ (j = 0 ∧ 16 < 17) by omega), if_neg (show ¬ (j + 17 < 16) by omega), if_neg (show ¬ (j + 17 < 17) by omega)]
theorem fRow_next (n : List Nat) (k : Nat) (hk : k < 24) : (fRow n (k + 17)).set k (IV (fSt n (k + 17) k + n.getD (k + 17) 0 * 64 * 5)) = fRow n (k + 17 + 1) := by
  apply List.ext_getElem
  · simp [fRow]
  · intro j h1 h2
    have hj : j < 24 := by simpa [fRow] using h2
    simp only [fRow, List.getElem_set, List.getElem_map, List.getElem_range, fSt]
    by_cases e : k = j
    · subst e
      rw [if_pos rfl, if_neg (show ¬ (k + 17 < k + 17) by omega), if_pos (show k + 17 < k + 17 + 1 by omega)]
      congr 2
      by_cases e0 : k = 0
      · rw [if_pos (show k = 0 ∧ 16 < k + 17 by omega), if_pos (show k = 0 ∧ 16 < k + 17 + 1 by omega)]; rfl
      · rw [if_neg (show ¬ (k = 0 ∧ 16 < k + 17) by omega), if_neg (show ¬ (k = 0 ∧ 16 < k + 17 + 1) by omega)]
    · rw [if_neg e]
      congr 1
      have a1 : (j + 17 < k + 17) ↔ (j + 17 < k + 17 + 1) := by omega
      have a2 : (j = 0 ∧ 16 < k + 17) ↔ (j = 0 ∧ 16 < k + 17 + 1) := by omega
      simp only [a1, a2]
theorem fRow_end (n : List Nat) (h : 17 ≤ n.length) : fRow n n.length = (foldedR n).map IV := by
  unfold fRow foldedR
  rw [List.map_map]
  apply List.map_congr_left
  intro j _
  show IV _ = IV _
  congr 1
  unfold fSt
  have a2 : (j = 0 ∧ 16 < n.length) ↔ (j = 0) := by omega
  simp only [a2]
  by_cases e : j + 17 < n.length
  · rw [if_pos e]
  · rw [if_neg e]
    simp [List.getD_eq_getElem?_getD, List.getElem?_eq_none (show n.length ≤ j + 17 by omega)]
theorem fSt_le (n : List Nat) (i j : Nat) (hd : ∀ i, n.getD i 0 < 256) : fSt n i j ≤ 100000 := by
  unfold fSt
  have h1 := hd j; have h2 := hd 16; have h3 := hd (j + 17)
  split <;> split <;> split <;> (try split) <;> omega

theorem wrap64_sm (z : Nat) (h : z ≤ 1000000000) : wrap64 (z : Int) = (z : Int) := by unfold wrap64; omega
theorem wrap_a (y q : Nat) (hy : y ≤ 1000000) (hq : q ≤ 1000000) : wrap64 ((y : Int) + wrap64 (wrap64 (q : Int) * 5)) = ((y + q * 5 : Nat) : Int) := by
  rw [wrap64_sm q (by omega), show (q : Int) * 5 = ((q * 5 : Nat) : Int) by omega, wrap64_sm _ (by omega), show (y : Int) + ((q * 5 : Nat) : Int) = ((y + q * 5 : Nat) : Int) by omega, wrap64_sm _ (by omega)]
theorem wrap_b (y q : Nat) (hy : y ≤ 1000000) (hq : q ≤ 1000000) : wrap64 ((y : Int) + wrap64 (wrap64 ((q : Int) * 64) * 5)) = ((y + q * 64 * 5 : Nat) : Int) := by
  rw [show (q : Int) * 64 = ((q * 64 : Nat) : Int) by omega, wrap64_sm _ (by omega), show ((q * 64 : Nat) : Int) * 5 = ((q * 64 * 5 : Nat) : Int) by omega, wrap64_sm _ (by omega), show (y : Int) + ((q * 64 * 5 : Nat) : Int) = ((y + q * 64 * 5 : Nat) : Int) by omega, wrap64_sm _ (by omega)]

theorem folded27 (n : List Nat) (w : World) (oa : Option Addr) (c : Nat) (h : Cells w oa (n.map IV)) (h17 : 17 ≤ n.length) (h41 : n.length ≤ 41) (hd : ∀ i, n.getD i 0 < 256) :
    Calls Try.prog 27 #[.slice oa n.length c] w (NewI w (foldedR n)) := by
  have H := Lib.hid h; have HD := Lib.hid hd; clear h hd
  have hmk : ∀ W : World, (Instr.makeSlice 42 (.int .i64 24) (.int .i64 24)).run Try.prog W = .ok (.slice (some ⟨W.heap.size, 0, none⟩) 24 24) (W.alloc (.cells (zI 24).toArray 3)) := mkI 24 (by omega)
  obtain ⟨L, hL⟩ : ∃ L, n.length = L := ⟨_, rfl⟩
  rw [hL] at h17 h41 ⊢
  have HL := Lib.hid hL; clear hL
  go_enter Try.func27, Try.ntmps27
  go_wp2
  go_loopw [4] (fun i wr => ∃ k : Nat, k ≤ 17 ∧ i = .int .i64 k ∧ Hid (Blk wr w.heap.size (turnTo (fun i => IV (n.getD i 0)) (fun _ => IV 0) k 24)) ∧ Hid (Below w.heap.size w wr)) (fun i _ => 17 - (intOf i).toNat)
  case atStart =>
    refine ⟨0, by omega, rfl, ?_, by (with_reducible try refine Lib.hid ?_); (repeat (with_reducible first | assumption | exact Below.refl _ _ | apply Below.drew | apply Below.drewN' | apply Below.setCell | apply Below.alloc)) <;> (try simp [length_fillTo, length_turnTo]) <;> (try omega)⟩
    exact Blk.cast (by (with_reducible try refine Lib.hid ?_); (repeat (with_reducible first | assumption | (apply Blk.new' <;> (simp; done)) | apply Blk.drew | apply Blk.drewN | apply Blk.alloc | apply Blk.set | apply Blk.setOther)) <;> (try simp [length_fillTo, length_turnTo]) <;> (try omega)) (zI_turn _ _)
  case round =>
    obtain ⟨k, hk, rfl, hO, hbel⟩ := hrel
    by_cases hlt : k < 17
    · have hk5 : (k : Int) < 17 := by omega
      have rk : IntKind.i64.wrap ((k : Int) + 1) = ((k + 1 : Nat) : Int) := by rw [IntKind.wrap_i64]; omega
      obtain ⟨b1, o1, rfl, hb1, hc1⟩ := (H.out.below hbel.out (Nat.le_refl _)).num (i := k) (by rw [HL.out]; omega)
      have hkL : (k : Int) < (L : Int) := by omega
      have hO1 := hO.out.at' k (by simp [turnTo]; omega)
      have cz := hO.out.froz
      have hk24 : (k : Int) < 24 := by omega
      have HX : Hid (n.getD k 0 = n.getD k 0) := rfl
      obtain ⟨x, hx⟩ : ∃ x, n.getD k 0 = x := ⟨_, rfl⟩
      rw [hx] at hc1
      have HX := Lib.hid hx; clear hx
      go_wp2
      go_roundw
      case measure => simp [intOf]; omega
      case rel =>
        have hO' := hO.out; have hb' := hbel.out
        refine ⟨k + 1, by omega, rfl, Lib.hid (Blk.cast (by (with_reducible try refine Lib.hid ?_); (repeat (with_reducible first | assumption | (apply Blk.new' <;> (simp; done)) | apply Blk.drew | apply Blk.drewN | apply Blk.alloc | apply Blk.set | apply Blk.setOther)) <;> (try simp [length_fillTo, length_turnTo]) <;> (try omega)) ?_), by (with_reducible try refine Lib.hid ?_); (repeat (with_reducible first | assumption | exact Below.refl _ _ | apply Below.drew | apply Below.drewN' | apply Below.setCell | apply Below.alloc)) <;> (try simp [length_fillTo, length_turnTo]) <;> (try omega)⟩
        rw [← turnTo_set]
        congr 1
        rw [HX.out]; rfl
    · obtain rfl : k = 17 := by omega
      clear hlt hk
      obtain ⟨b1, o1, rfl, hb1, hc1⟩ := (H.out.below hbel.out (Nat.le_refl _)).num (i := 16) (by rw [HL.out]; omega)
      have hkL : (16 : Int) < (L : Int) := by omega
      have hO1 := hO.out.at' 16 (by simp [turnTo])
      have cz := hO.out.froz
      obtain ⟨x, hx⟩ : ∃ x, n.getD 16 0 = x := ⟨_, rfl⟩
      have hxl := HD.out 16
      rw [hx] at hc1 hxl
      have HX := Lib.hid hx; clear hx
      go_wp2
      have hB2 : Blk (wr.setCell ⟨w.heap.size, 16, none⟩ (.int .i64 ((x : Int) % 4))) w.heap.size (fRow n 16) := by
        have hO' := hO.out
        refine Blk.cast (Blk.set hO' 16 (by simp [turnTo]) _) ?_
        rw [← fRow_begin, HX.out]; rfl
      have hb2 : Below w.heap.size w (wr.setCell ⟨w.heap.size, 16, none⟩ (.int .i64 ((x : Int) % 4))) := by have hb' := hbel.out; (with_reducible try refine Lib.hid ?_); (repeat (with_reducible first | assumption | exact Below.refl _ _ | apply Below.drew | apply Below.drewN' | apply Below.setCell | apply Below.alloc)) <;> (try simp [length_fillTo, length_turnTo]) <;> (try omega)
      have HB2 := Lib.hid hB2; have HBB := Lib.hid hb2; have HC := Lib.hid (H.out.below hb2 (Nat.le_refl _))
      clear hB2 hb2 hbel hO hc1 hO1 cz hkL
      generalize (wr.setCell ⟨w.heap.size, 16, none⟩ (.int .i64 ((x : Int) % 4))) = W1 at *
      go_loopw [5] (fun i wr => ∃ k : Nat, 16 ≤ k ∧ k ≤ L ∧ i = .int .i64 k ∧ Hid (Blk wr w.heap.size (fRow n k)) ∧ Hid (Below w.heap.size w wr)) (fun i _ => L - (intOf i).toNat)
      case atStart => exact ⟨16, by omega, by omega, rfl, HB2, HBB⟩
      case round =>
        obtain ⟨k, hk16, hk, rfl, hO, hbel⟩ := hrel
        by_cases hlt : k < L
        · have hk5 : (k : Int) < (L : Int) := by omega
          have rk : IntKind.i64.wrap ((k : Int) + 1) = ((k + 1 : Nat) : Int) := by rw [IntKind.wrap_i64]; omega
          obtain ⟨b1', o1', e, hb1, hc1⟩ := (H.out.below hbel.out (Nat.le_refl _)).num (i := k) (by rw [HL.out]; omega)
          obtain ⟨rfl, rfl⟩ : b1 = b1' ∧ o1 = o1' := by simpa using e
          clear e
          have cz := hO.out.froz
          by_cases h16 : k = 16
          · subst h16
            have hO1 := hO.out.at' 0 (by simp [fRow])
            have e0 : (fRow n 16)[0]'(by simp [fRow]) = .int .i64 (n.getD 0 0 : Nat) := by simp [fRow, fSt, IV]
            rw [e0] at hO1
            clear e0
            have hyl := HD.out 0
            rw [HX.out] at hc1
            obtain ⟨y, hy⟩ : ∃ y, n.getD 0 0 = y := ⟨_, rfl⟩
            rw [hy] at hO1 hyl
            obtain ⟨q, hq⟩ : ∃ q, x / 4 = q := ⟨_, rfl⟩
            obtain ⟨s, hs⟩ : ∃ s, x % 4 = s := ⟨_, rfl⟩
            have r1 : (x : Int) % 4 = (s : Int) := by omega
            have r2 : IntKind.i64.wrap ((x : Int) - (s : Int)) = ((4 * q : Nat) : Int) := by rw [IntKind.wrap_i64]; omega
            have r2' : wrap64 ((x : Int) - (s : Int)) = ((4 * q : Nat) : Int) := by unfold wrap64; omega
            have HY := Lib.hid hy; have HQ := Lib.hid hq
            have HW : Hid (wrap64 ((y : Int) + wrap64 (wrap64 (q : Int) * 5)) = ((y + q * 5 : Nat) : Int)) := wrap_a y q (by omega) (by omega)
            clear hy hq hs hxl hyl
            have hgo := hO.out; have hbo := hbel.out
            go_wp2
            go_roundw
            case measure => simp [intOf]; omega
            case rel =>
              rw [HW.out]
              refine ⟨17, by omega, by omega, rfl, Lib.hid (Blk.cast (Blk.set hgo 0 (by simp [fRow]) _) ?_), by (with_reducible try refine Lib.hid ?_); (repeat (with_reducible first | assumption | exact Below.refl _ _ | apply Below.drew | apply Below.drewN' | apply Below.setCell | apply Below.alloc)) <;> (try simp [length_fillTo, length_turnTo]) <;> (try omega)⟩
              rw [← fRow_first, HX.out, HY.out, HQ.out]; rfl
          · obtain ⟨j, hj⟩ : ∃ j, k = j + 17 := ⟨k - 17, by omega⟩
            subst hj
            have hk16' : ¬ ((j + 17 : Nat) : Int) = 16 := by omega
            have hj24 : j < 24 := by omega
            have hj24' : (j : Int) < 24 := by omega
            have hO1 := hO.out.at' j (by simp [fRow]; omega)
            have e0 : (fRow n (j + 17))[j]'(by simp [fRow]; omega) = .int .i64 (fSt n (j + 17) j : Nat) := by simp [fRow, IV]
            rw [e0] at hO1
            clear e0
            have hyl := fSt_le n (j + 17) j HD.out
            have hxl := HD.out (j + 17)
            obtain ⟨y, hy⟩ : ∃ y, fSt n (j + 17) j = y := ⟨_, rfl⟩
            obtain ⟨x', hx'⟩ : ∃ x', n.getD (j + 17) 0 = x' := ⟨_, rfl⟩
            rw [hy] at hO1 hyl
            rw [hx'] at hc1 hxl
            have HN : Hid ((fRow n (j + 17)).set j (IV (y + x' * 64 * 5)) = fRow n (j + 17 + 1)) := by rw [← hy, ← hx']; exact fRow_next n j hj24
            obtain ⟨k, hkk⟩ : ∃ k, j + 17 = k := ⟨_, rfl⟩
            rw [hkk] at hk5 rk hc1 hk16' HN hO ⊢
            have r1 : IntKind.i64.wrap ((k : Int) - 17) = (j : Int) := by rw [IntKind.wrap_i64]; omega
            have HW : Hid (wrap64 ((y : Int) + wrap64 (wrap64 ((x' : Int) * 64) * 5)) = ((y + x' * 64 * 5 : Nat) : Int)) := wrap_b y x' (by omega) (by omega)
            have hgo := hO.out; have hbo := hbel.out
            have HK : Hid (16 ≤ k ∧ k < L) := ⟨by omega, by omega⟩
            clear hy hx' hkk hxl hyl
            go_wp2
            go_roundw
            case measure => simp [intOf]; omega
            case rel =>
              rw [HW.out]
              have hk2 := HK.out
              refine ⟨k + 1, by omega, by omega, rfl, Lib.hid (Blk.cast (Blk.set hgo j (by simp [fRow]; omega) _) ?_), by (with_reducible try refine Lib.hid ?_); (repeat (with_reducible first | assumption | exact Below.refl _ _ | apply Below.drew | apply Below.drewN' | apply Below.setCell | apply Below.alloc)) <;> (try simp [length_fillTo, length_turnTo]) <;> (try omega)⟩
              exact HN.out
        · obtain rfl : k = L := by omega
          have hO' : Blk wr w.heap.size ((foldedR n).map IV) := by
            refine hO.out.cast ?_
            rw [← fRow_end n (by rw [HL.out]; omega), HL.out]
          have HO := Lib.hid hO'
          have hl : (foldedR n).length = 24 := by simp [foldedR]
          clear hO hO'
          go_wp2
          refine bodyPost_ret (v := .slice (some ⟨w.heap.size, 0, none⟩) 24 24) (by simp [results, Try.results27, go_sem]) rfl ⟨w.heap.size, by rw [hl], Nat.le_refl _, HO.out, hbel.out⟩
end Go.Proofs.Ytlheepcojeaeaaa
