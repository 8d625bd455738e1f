/-
  Walks of the document's numbers: digits, carries.
-/
import Derived.Test.YtlheepcojeaeaaaXc
import Derived.Test.YtlheepcojeaeaaaPlanB
namespace Go.Proofs.Ytlheepcojeaeaaa
open Go.RowKit
set_option maxHeartbeats 1000000
set_option linter.unusedVariables false
set_option linter.unusedSimpArgs false

def IV (x : Nat) : Value := .int .i64 (x : Int)
def zI (n : Nat) : List Value := (List.range n).map fun _ => IV 0
/-- numbers in a new block -/
def NewI (w : World) (l : List Nat) (e : Ending) (w' : World) : Prop :=
  ∃ g, e = .returned (.slice (some ⟨g, 0, none⟩) l.length l.length) ∧ w.heap.size ≤ g ∧ Blk w' g (l.map IV) ∧ Below w.heap.size w w'
theorem mkI (n : Nat) (hn : n ≤ 1000000) (w : World) : (Instr.makeSlice 42 (.int .i64 n) (.int .i64 n)).run Try.prog w = .ok (.slice (some ⟨w.heap.size, 0, none⟩) n n) (w.alloc (.cells (zI n).toArray 3)) := by
  have e : zI n = List.replicate n (IV 0) := by
    apply List.ext_getElem <;> simp [zI]
  rw [e]
  exact run_make_blk w 42 3 (.int .i64 0) 8 rfl (by kernel_rfl) rfl .i64 .i64 n (by omega) (by simp [maxLen]; omega)
theorem zI_turn (f : Nat → Value) (n : Nat) : zI n = turnTo f (fun _ => IV 0) 0 n := by rw [turnTo_zero]; rfl
theorem Cells.num {w : World} {oa : Option Addr} {l : List Nat} (h : Cells w oa (l.map IV)) {i : Nat} (hi : i < l.length) :
    ∃ b o, oa = some ⟨b, o, none⟩ ∧ b < w.heap.size ∧ w.cell? ⟨b, o + i, none⟩ = some (.int .i64 (l.getD i 0 : Nat)) := by
  obtain ⟨b, o, e, hlt, hc⟩ := h.at' (i := i) (by simpa using hi)
  exact ⟨b, o, e, hlt, by simpa [IV, List.getD_eq_getElem?_getD, hi] using hc⟩
theorem trem_nat (z m : Nat) : (z : Int).tmod (m : Int) = ((z % m : Nat) : Int) := by rw [Int.tmod_eq_emod_of_nonneg (by omega)]; rfl
theorem tquo_nat (z m : Nat) : (z : Int).tdiv (m : Int) = ((z / m : Nat) : Int) := by rw [Int.tdiv_eq_ediv_of_nonneg (by omega)]; rfl

theorem wrap64_div (z : Nat) (h : z < 2 ^ 60) : wrap64 ((z : Int) / 256) = ((z / 256 : Nat) : Int) := by
  have : ((z / 256 : Nat) : Int) = (z : Int) / 256 := by omega
  rw [← this]; unfold wrap64; omega

theorem digits20 (b : List UInt8) (w : World) (oa : Option Addr) (n c : Nat) (h : Reads w oa n b) (hb : b.length ≤ 17) :
    Calls Try.prog 20 #[.slice oa n c, .int .i64 17] w (NewI w (digitsR b)) := by
  obtain rfl : n = b.length := h.len
  have H := Lib.hid h.cells; clear h
  have hmk : ∀ W : World, (Instr.makeSlice 42 (.int .i64 17) (.int .i64 17)).run Try.prog W = .ok (.slice (some ⟨W.heap.size, 0, none⟩) 17 17) (W.alloc (.cells (zI 17).toArray 3)) := mkI 17 (by omega)
  go_enter Try.func20, Try.ntmps20
  go_wp2
  go_loopw [6] (fun i wr => ∃ k : Nat, k ≤ b.length ∧ i = .int .i64 k ∧ Hid (Blk wr w.heap.size (turnTo (fun i => IV (b.getD i 0).toNat) (fun _ => IV 0) k 17)) ∧ Hid (Below w.heap.size w wr)) (fun i _ => 17 - (intOf i).toNat)
  case atStart =>
    refine ⟨0, by omega, rfl, ?_, by (with_reducible try refine Lib.hid ?_); (repeat (with_reducible first | assumption | exact Below.refl _ _ | apply Below.drew | apply Below.drewN' | apply Below.setCell | apply Below.alloc)) <;> (try simp [length_fillTo, length_turnTo]) <;> (try omega)⟩
    exact Blk.cast (by (with_reducible try refine Lib.hid ?_); (repeat (with_reducible first | assumption | (apply Blk.new' <;> (simp; done)) | apply Blk.drew | apply Blk.drewN | apply Blk.alloc | apply Blk.set | apply Blk.setOther)) <;> (try simp [length_fillTo, length_turnTo]) <;> (try omega)) (zI_turn _ _)
  case round =>
    obtain ⟨k, hk, rfl, hO, hbel⟩ := hrel
    by_cases hlt : k < b.length
    · have hk5 : (k : Int) < (b.length : Int) := by omega
      have rk : IntKind.i64.wrap ((k : Int) + 1) = ((k + 1 : Nat) : Int) := by rw [IntKind.wrap_i64]; omega
      obtain ⟨b1, o1, rfl, hb1, hc1⟩ := (H.out.below hbel.out (Nat.le_refl _)).bytes (i := k) hlt
      have hO1 := hO.out.at' k (by simp [turnTo]; omega)
      have cz := hO.out.froz
      have HX : Hid (b[k].toNat = (b.getD k 0).toNat) := by show _ = _; simp [List.getD_eq_getElem?_getD, hlt]
      have h1 := b[k].toNat_lt
      generalize b[k].toNat = x at *
      have r0 : IntKind.i64.wrap (x : Int) = x := by rw [IntKind.wrap_i64]; omega
      have hk17 : (k : Int) < 17 := by omega
      go_wp2
      go_roundw
      case measure => simp [intOf]; omega
      case rel =>
        have hO' := hO.out; have hb' := hbel.out
        refine ⟨k + 1, by omega, rfl, Lib.hid (Blk.cast (by (with_reducible try refine Lib.hid ?_); (repeat (with_reducible first | assumption | (apply Blk.new' <;> (simp; done)) | apply Blk.drew | apply Blk.drewN | apply Blk.alloc | apply Blk.set | apply Blk.setOther)) <;> (try simp [length_fillTo, length_turnTo]) <;> (try omega)) ?_), by (with_reducible try refine Lib.hid ?_); (repeat (with_reducible first | assumption | exact Below.refl _ _ | apply Below.drew | apply Below.drewN' | apply Below.setCell | apply Below.alloc)) <;> (try simp [length_fillTo, length_turnTo]) <;> (try omega)⟩
        rw [← turnTo_set]
        congr 1
        rw [← HX.out]; rfl
    · obtain rfl : k = b.length := by omega
      have hO' : Blk wr w.heap.size ((digitsR b).map IV) := by
        refine hO.out.cast ?_
        unfold digitsR turnTo
        rw [List.map_map]
        apply List.map_congr_left
        intro i _
        by_cases hi : i < b.length
        · rw [if_pos hi]; rfl
        · rw [if_neg hi]
          simp [List.getD_eq_getElem?_getD, List.getElem?_eq_none (show b.length ≤ i by omega)]
      have HO := Lib.hid hO'
      have hl : (digitsR b).length = 17 := by simp [digitsR]
      clear hO hO'
      go_wp2
      refine bodyPost_ret (v := .slice (some ⟨w.heap.size, 0, none⟩) 17 17) (by simp [results, Try.results20, go_sem]) rfl ⟨w.heap.size, by rw [hl], Nat.le_refl _, HO.out, hbel.out⟩

theorem carried26 (n : List Nat) (w : World) (oa : Option Addr) (c : Nat) (h : Cells w oa (n.map IV)) (hl : n.length ≤ 1000) (hM : ∀ i, n.getD i 0 ≤ 2 ^ 40) :
    Calls Try.prog 26 #[.slice oa n.length c] w (NewI w (carriedR n)) := by
  have H := Lib.hid h; have HM := Lib.hid hM; clear h hM
  obtain ⟨L, hL⟩ : ∃ L, n.length + 4 = L := ⟨_, rfl⟩
  have rL : IntKind.i64.wrap ((n.length : Int) + 4) = (L : Int) := by rw [IntKind.wrap_i64]; omega
  have hmk := mkI L (by omega)
  have HLL := Lib.hid hL; clear hL
  go_enter Try.func26, Try.ntmps26
  go_wp2
  have HL : Hid (L ≤ 1004 ∧ L = n.length + 4) := ⟨by have := HLL.out; omega, HLL.out.symm⟩
  clear hl hmk rL
  go_loopw [3, 5] (fun o i wr => ∃ k : Nat, k ≤ L ∧ o = .int .i64 (cOver n k) ∧ i = .int .i64 k ∧ Hid (Blk wr w.heap.size (turnTo (fun k => IV ((cOver n k + n.getD k 0) % 256)) (fun _ => IV 0) k (L))) ∧ Hid (Below w.heap.size w wr)) (fun _ i _ => L - (intOf i).toNat)
  case atStart =>
    refine ⟨0, by omega, rfl, rfl, ?_, by (with_reducible try refine Lib.hid ?_); (repeat (with_reducible first | assumption | exact Below.refl _ _ | apply Below.drew | apply Below.drewN' | apply Below.setCell | apply Below.alloc)) <;> (try simp [length_fillTo, length_turnTo]) <;> (try omega)⟩
    exact Blk.cast (by (with_reducible try refine Lib.hid ?_); (repeat (with_reducible first | assumption | (apply Blk.new' <;> (simp; done)) | apply Blk.drew | apply Blk.drewN | apply Blk.alloc | apply Blk.set | apply Blk.setOther)) <;> (try simp [length_fillTo, length_turnTo]) <;> (try omega)) (zI_turn _ _)
  case round =>
    obtain ⟨k, hk, rfl, rfl, hO, hbel⟩ := hrel
    by_cases hlt : k < L
    · have hk5 : (k : Int) < ((L : Nat) : Int) := by omega
      have rk : IntKind.i64.wrap ((k : Int) + 1) = ((k + 1 : Nat) : Int) := by have := HL.out.1; rw [IntKind.wrap_i64]; omega
      have hO1 := hO.out.at' k (by simp [turnTo]; omega)
      have cz := hO.out.froz
      have h1 := HM.out k
      have h2 := cOver_le n _ HM.out k
      have HS : Hid (cOver n (k + 1) = (cOver n k + n.getD k 0) / 256) := rfl
      have fin : ∀ wr' o' i', o' = Value.int .i64 (wrap64 (((cOver n k + n.getD k 0 : Nat) : Int) / 256)) → i' = Value.int .i64 ((k : Int) + 1) → wr' = wr.setCell ⟨w.heap.size, k, none⟩ (.int .i64 (((cOver n k + n.getD k 0 : Nat) : Int) % 256)) →
          ∃ k : Nat, k ≤ L ∧ o' = .int .i64 (cOver n k) ∧ i' = .int .i64 k ∧ Hid (Blk wr' w.heap.size (turnTo (fun k => IV ((cOver n k + n.getD k 0) % 256)) (fun _ => IV 0) k L)) ∧ Hid (Below w.heap.size w wr') := by
        rintro wr' o' i' rfl rfl rfl
        have hO' := hO.out; have hb' := hbel.out
        refine ⟨k + 1, by omega, ?_, rfl, Lib.hid (Blk.cast (by (with_reducible try refine Lib.hid ?_); (repeat (with_reducible first | assumption | (apply Blk.new' <;> (simp; done)) | apply Blk.drew | apply Blk.drewN | apply Blk.alloc | apply Blk.set | apply Blk.setOther)) <;> (try simp [length_fillTo, length_turnTo]) <;> (try omega)) ?_), by (with_reducible try refine Lib.hid ?_); (repeat (with_reducible first | assumption | exact Below.refl _ _ | apply Below.drew | apply Below.drewN' | apply Below.setCell | apply Below.alloc)) <;> (try simp [length_fillTo, length_turnTo]) <;> (try omega)⟩
        · rw [wrap64_div _ (by omega)]; rfl
        · rw [← turnTo_set]
          congr 1
      have FIN := Lib.hid fin
      clear fin
      by_cases hin : k < n.length
      · have hk6 : (k : Int) < (n.length : Int) := by omega
        obtain ⟨b1, o1, rfl, hb1, hc1⟩ := (H.out.below hbel.out (Nat.le_refl _)).num (i := k) hin
        obtain ⟨x, hx⟩ : ∃ x, n.getD k 0 = x := ⟨_, rfl⟩
        obtain ⟨o, ho⟩ : ∃ o, cOver n k = o := ⟨_, rfl⟩
        rw [hx, ho] at FIN
        rw [hx] at hc1 h1 HS; rw [ho] at h2 HS
        have r0 : IntKind.i64.wrap ((o : Int) + (x : Int)) = ((o + x : Nat) : Int) := by rw [IntKind.wrap_i64]; omega
        obtain ⟨z, hzz⟩ : ∃ z, o + x = z := ⟨_, rfl⟩
        rw [hzz] at r0 HS FIN
        rw [ho]
        clear hx ho hzz h1 h2 HS
        go_wp2
        go_roundw
        case measure => simp [intOf]; omega
        case rel => exact FIN.out _ _ _ rfl rfl rfl
      · have hk6 : ¬ (k : Int) < (n.length : Int) := by omega
        have hx : n.getD k 0 = 0 := by simp [List.getD_eq_getElem?_getD, List.getElem?_eq_none (show n.length ≤ k by omega)]
        obtain ⟨o, ho⟩ : ∃ o, cOver n k = o := ⟨_, rfl⟩
        rw [hx, ho, Nat.add_zero] at FIN
        rw [ho]
        clear hx ho h1 h2 HS
        go_wp2
        go_roundw
        case measure => simp [intOf]; omega
        case rel => exact FIN.out _ _ _ rfl rfl rfl
    · obtain rfl : k = L := by omega
      have hO' : Blk wr w.heap.size ((carriedR n).map IV) := by
        refine hO.out.cast ?_
        rw [turnTo_full, HL.out.2]
        unfold carriedR
        rw [List.map_map]; rfl
      have HO := Lib.hid hO'
      have hl : (carriedR n).length = k := by rw [carried_len]; exact HL.out.2.symm
      clear hO hO'
      go_wp2
      refine bodyPost_ret (v := .slice (some ⟨w.heap.size, 0, none⟩) k k) (by simp [results, Try.results26, go_sem]) rfl ⟨w.heap.size, by rw [hl], Nat.le_refl _, HO.out, hbel.out⟩
end Go.Proofs.Ytlheepcojeaeaaa
