/-
  Walks: cleared bits.
-/
import Derived.Test.YtlheepcojeaeaaaWc
import Derived.Test.YtlheepcojeaeaaaOwn
namespace Go.Proofs.Ytlheepcojeaeaaa
open Go.RowKit
set_option maxHeartbeats 400000
set_option linter.unusedVariables false
set_option linter.unusedSimpArgs false

theorem el23 : Elem Try.prog 23 5 1 1 := Elem.of (.int .u8 0) rfl (by kernel_rfl) rfl (by omega)

/-- a byte whose bits are cleared -/
def clByte (i : Nat) (x : UInt8) : UInt8 := if i % 4 = 3 then x &&& 15 else if i % 4 = 0 ∧ 0 < i then x &&& 252 else x
def clampM (l : List UInt8) : List UInt8 := (List.range 16).map fun i => clByte i (l.getD i 0)

theorem take_range (l : List UInt8) (n : Nat) (h : n ≤ l.length) : (l.take n).map By = (List.range n).map fun i => By (l.getD i 0) := by
  apply List.ext_getElem
  · simp; omega
  · intro i h1 h2
    simp at h1 h2
    simp [List.getD, show i < l.length by omega]

theorem and_u8 (a b : UInt8) : bits .and .u8 (a.toNat : Int) (b.toNat : Int) = ((a &&& b).toNat : Int) := by
  rw [u8_and_nat _ _ a.toNat_lt b.toNat_lt, UInt8.toNat_and]

theorem Cells.take {w : World} {oa : Option Addr} {l : List Value} (h : Cells w oa l) (n : Nat) : Cells w oa (l.take n) := by
  intro i hi
  rw [List.length_take] at hi
  obtain ⟨b, o, e, hc⟩ := h i (by omega)
  refine ⟨b, o, e, ?_⟩
  rw [hc, List.getElem?_take, if_pos (by omega)]

theorem clamp11_nil (l : List UInt8) (w : World) (oa : Option Addr) (n c : Nat) (h : Reads w oa n l) (hl : l.length < 16) :
    Calls Try.prog 11 #[.slice oa n c] w fun r w' => r = .returned (.slice none 0 0) ∧ w' = w := by
  obtain rfl : n = l.length := h.len
  have hl' : (l.length : Int) < 16 := by omega
  clear h
  go_enter Try.func11, Try.ntmps11
  go_wp2
  refine bodyPost_ret (v := .slice none 0 0) (by simp [results, Try.results11, go_sem]) rfl ⟨rfl, rfl⟩

theorem clamp11 (l : List UInt8) (w : World) (oa : Option Addr) (n c : Nat) (h : Reads w oa n l) (hl : ¬ l.length < 16) (hc : n ≤ c) (hm : c ≤ maxLen) :
    Calls Try.prog 11 #[.slice oa n c] w (RowOut w ((clampM l).map By)) := by
  obtain rfl : n = l.length := h.len
  have hl' : ¬ (l.length : Int) < 16 := by omega
  have hc' : (16 : Int) ≤ (c : Int) := by omega
  have hcell := (h.cells).take 16
  rw [← List.map_take] at hcell
  have HC := Lib.hid hcell; clear h hcell
  have HM := Lib.hid hm; clear hm
  go_enter Try.func11, Try.ntmps11
  go_wp2_with (refine stop_append rfl ?_)
  have h0 := Own.lit w [] 5 1 0 (by simp [maxLen]) rfl w.heap.size (Nat.le_refl _)
  refine ⟨wpList_app el23 rfl rfl (by rfl) h0 (by rfl) (m := 16) (by simp; omega) (HC.out.alloc _) (By_oneCell _) (by simp [maxLen]) (by omega) (by simp) ?_⟩
  intro v w1 hown hg
  obtain ⟨g, cp, rfl, hn, hcm, hbg, hblk⟩ := hown.blk (by omega)
  have hb1 : Below w.heap.size w w1 := h0.below hg ((Below.refl _ _).alloc (Nat.le_refl _) _) (Nat.le_refl _) (by simp)
  have HB1 := Lib.hid hb1
  have hblk2 : Blk w1 g (turnTo (fun i => By (clByte i (l.getD i 0))) (fun i => By (l.getD i 0)) 0 16) := by
    rw [turnTo_zero, ← take_range l 16 (by omega)]; exact hblk
  have HB2 := Lib.hid hblk2
  have HBG := Lib.hid hbg
  clear h0 hblk hblk2 hb1 hg hown hbg
  go_wp2
  go_loopw [14] (fun i wr => ∃ k : Nat, k ≤ 16 ∧ i = .int .i64 k ∧ Hid (Blk wr g (turnTo (fun i => By (clByte i (l.getD i 0))) (fun i => By (l.getD i 0)) k 16)) ∧ Hid (Below w.heap.size w wr)) (fun i _ => 16 - (intOf i).toNat)
  case atStart => exact ⟨0, by omega, rfl, HB2, HB1⟩
  case round =>
    obtain ⟨k, hk, rfl, hB, hbel⟩ := hrel
    by_cases hlt : k < 16
    · have hk5 : (k : Int) < 16 := by omega
      have c0 := hB.out.at' k (by rw [length_turnTo]; exact hlt)
      rw [turnTo_get _ _ _ _ _ hlt, if_neg (by omega)] at c0
      unfold By at c0
      have cz := hB.out.froz
      have HV : Hid (clByte k (l.getD k 0) = if k % 4 = 3 then l.getD k 0 &&& 15 else if k % 4 = 0 ∧ 0 < k then l.getD k 0 &&& 252 else l.getD k 0) := rfl
      obtain ⟨x, hx⟩ : ∃ x, l.getD k 0 = x := ⟨_, rfl⟩
      rw [hx] at c0 HV
      have HX := Lib.hid hx; clear hx
      obtain ⟨m, hm⟩ : ∃ m, k % 4 = m := ⟨_, rfl⟩
      rw [hm] at HV
      have r0 : (k : Int) % 4 = (m : Int) := by omega
      have HMM := Lib.hid hm; clear hm
      by_cases h3 : m = 3
      · subst h3
        go_wp2
        go_roundw
        case measure => (simp [intOf]) <;> omega
        case rel =>
          have hB' := hB.out; have hb' := hbel.out; have hbg := HBG.out
          refine ⟨k + 1, by omega, by go_num, Lib.hid (Blk.cast (by (with_reducible try refine Lib.hid ?_); (repeat (with_reducible first | assumption | (apply Blk.new' <;> (simp; done)) | apply Blk.drew | apply Blk.drewN | apply Blk.alloc | apply Blk.set | apply Blk.setOther)) <;> (try simp [length_fillTo, length_turnTo]) <;> (try omega)) ?_), by (with_reducible try refine Lib.hid ?_); (repeat (with_reducible first | assumption | exact Below.refl _ _ | apply Below.drew | apply Below.drewN' | apply Below.setCell | apply Below.alloc)) <;> (try simp [length_fillTo, length_turnTo]) <;> (try omega)⟩
          rw [← turnTo_set]
          congr 1
          rw [HX.out, HV.out, if_pos rfl, By, ← and_u8]; rfl
      · have r1 : ¬ (m : Int) = 3 := by omega
        by_cases h4 : m = 0 ∧ 0 < k
        · have r2 : (m : Int) = 0 := by omega
          have r3 : (0 : Int) < k := by omega
          go_wp2
          go_roundw
          case measure => (simp [intOf]) <;> omega
          case rel =>
            have hB' := hB.out; have hb' := hbel.out; have hbg := HBG.out
            refine ⟨k + 1, by omega, by go_num, Lib.hid (Blk.cast (by (with_reducible try refine Lib.hid ?_); (repeat (with_reducible first | assumption | (apply Blk.new' <;> (simp; done)) | apply Blk.drew | apply Blk.drewN | apply Blk.alloc | apply Blk.set | apply Blk.setOther)) <;> (try simp [length_fillTo, length_turnTo]) <;> (try omega)) ?_), by (with_reducible try refine Lib.hid ?_); (repeat (with_reducible first | assumption | exact Below.refl _ _ | apply Below.drew | apply Below.drewN' | apply Below.setCell | apply Below.alloc)) <;> (try simp [length_fillTo, length_turnTo]) <;> (try omega)⟩
            rw [← turnTo_set]
            congr 1
            rw [HX.out, HV.out, if_neg (by omega), if_pos h4, By, ← and_u8]; rfl
        · have r2 : ¬ ((m : Int) = 0 ∧ (0 : Int) < k) := by omega
          have HN := Lib.hid h4; clear h4
          have fin : Hid (∀ wr', wr' = wr → Blk wr' g (turnTo (fun i => By (clByte i (l.getD i 0))) (fun i => By (l.getD i 0)) (k + 1) 16)) := by
            intro wr' e
            rw [e, ← turnTo_same]
            · exact hB.out
            · show By (clByte k (l.getD k 0)) = _
              rw [HX.out, HV.out, if_neg (by omega), if_neg HN.out]
          by_cases h0 : m = 0
          · have hk0 := HMM.out
            obtain rfl : k = 0 := by omega
            clear r0 h0 h3 r1 r2 HMM hk0
            go_wp2
            go_roundw
            case measure => (simp [intOf]) <;> omega
            case rel => exact ⟨0 + 1, by omega, by go_num, fin.out _ rfl, hbel⟩
          · have r4 : ¬ (m : Int) = 0 := by omega
            clear r2
            go_wp2
            go_roundw
            case measure => (simp [intOf]) <;> omega
            case rel => exact ⟨k + 1, by omega, by go_num, fin.out _ rfl, hbel⟩
    · obtain rfl : k = 16 := by omega
      have hB' := hB.out
      rw [turnTo_full] at hB'
      go_wp2
      refine bodyPost_ret (v := .slice (some ⟨g, 0, none⟩) 16 cp) (by simp [results, Try.results11, go_sem]) rfl ⟨some ⟨g, 0, none⟩, cp, by simp [clampM], ?_, hbel.out⟩
      have := hB'.cells
      simpa [clampM, Function.comp_def] using this
end Go.Proofs.Ytlheepcojeaeaaa
