/-
  Walks of numbers of five parts: writing.
-/
import Derived.Test.YtlheepcojeaeaaaWc
namespace Go.Proofs.Ytlheepcojeaeaaa
open Go.RowKit
set_option maxHeartbeats 400000
set_option linter.unusedVariables false
set_option linter.unusedSimpArgs false

theorem or_u64 (a b : UInt64) : bits .or .u64 (a.toNat : Int) (b.toNat : Int) = ((a ||| b).toNat : Int) := by
  rw [u64_or_nat _ _ a.toNat_lt b.toNat_lt, UInt64.toNat_or]
theorem shl_u64 (x : UInt64) {q : Nat} (h : q < 64) : IntKind.u64.wrap ((x.toNat : Int) * 2 ^ q) = ((x <<< UInt64.ofNat q).toNat : Int) := by
  rw [IntKind.wrap_u64, UInt64.toNat_shiftLeft, UInt64.toNat_ofNat', Nat.mod_eq_of_lt (show q < 2 ^ 64 by omega), Nat.mod_eq_of_lt h, Nat.shiftLeft_eq]
  rw [Int.natCast_emod, Int.natCast_mul, Int.natCast_pow]; rfl
theorem shrV_u64 (x : UInt64) {q : Nat} (h : q < 64) : (x.toNat : Int) / 2 ^ q = ((x >>> UInt64.ofNat q).toNat : Int) := by
  rw [UInt64.toNat_shiftRight, UInt64.toNat_ofNat', Nat.mod_eq_of_lt (show q < 2 ^ 64 by omega), Nat.mod_eq_of_lt h, Nat.shiftRight_eq_div_pow]
  rw [Int.natCast_ediv, Int.natCast_pow]; rfl
theorem byte_u64 (x : UInt64) : Value.int .u8 ((x.toNat : Int) % 256) = By x.toUInt8 := by
  unfold By
  rw [UInt64.toNat_toUInt8]
  congr 1

/-- a byte of what is written -/
def wByte (n : N5) (i : Nat) : UInt8 :=
  (if 8 * i / 26 + 1 < 5 then (n.list.getD (8 * i / 26) 0 >>> UInt64.ofNat (8 * i % 26)) ||| (n.list.getD (8 * i / 26 + 1) 0 <<< UInt64.ofNat (26 - 8 * i % 26))
    else n.list.getD (8 * i / 26) 0 >>> UInt64.ofNat (8 * i % 26)).toUInt8
def writeM (n : N5) : List UInt8 := (List.range 16).map (wByte n)

theorem write18 (n : N5) (w : World) : Calls Try.prog 18 #[n.val] w (RowOut w ((writeM n).map By)) := by
  have HVN : Hid (n.list = [n.a, n.b, n.c, n.d, n.e]) := rfl
  have hln : n.list.length = 5 := rfl
  unfold N5.val
  go_enter Try.func18, Try.ntmps18
  have hmk := mk16
  go_wp2
  have HLN := Lib.hid hln; clear hln
  go_loopw [11] (fun i wr => ∃ k : Nat, k ≤ 16 ∧ i = .int .i64 k ∧ Hid (Blk wr w.heap.size (n.list.map U64)) ∧ Hid (Blk wr (w.heap.size + 1) (fillTo (fun i => By (wByte n i)) (By 0) k 16)) ∧ Hid (Below w.heap.size w wr)) (fun i _ => 16 - (intOf i).toNat)
  case atStart =>
    refine ⟨0, by omega, rfl, ?_, ?_, by (with_reducible try refine Lib.hid ?_); (repeat (with_reducible first | assumption | exact Below.refl _ _ | apply Below.drew | apply Below.drewN' | apply Below.setCell | apply Below.alloc)) <;> (try simp [length_fillTo, length_turnTo]) <;> (try omega)⟩
    · exact Blk.cast (by (with_reducible try refine Lib.hid ?_); (repeat (with_reducible first | assumption | (apply Blk.new' <;> (simp; done)) | apply Blk.drew | apply Blk.drewN | apply Blk.alloc | apply Blk.set | apply Blk.setOther)) <;> (try simp [length_fillTo, length_turnTo]) <;> (try omega)) (by rw [HVN.out]; rfl)
    · exact Blk.cast (by (with_reducible try refine Lib.hid ?_); (repeat (with_reducible first | assumption | (apply Blk.new' <;> (simp; done)) | apply Blk.drew | apply Blk.drewN | apply Blk.alloc | apply Blk.set | apply Blk.setOther)) <;> (try simp [length_fillTo, length_turnTo]) <;> (try omega)) (by rfl)
  case round =>
    obtain ⟨k, hk, rfl, hA, hO, hbel⟩ := hrel
    by_cases hlt : k < 16
    · have hk5 : (k : Int) < 16 := by omega
      go_wp2_with fail
      refine (bit24 k _ (by omega)).mono ?_
      rintro r w' ⟨rfl, rfl⟩
      have HW : Hid (wByte n k = (if 8 * k / 26 + 1 < 5 then (n.list.getD (8 * k / 26) 0 >>> UInt64.ofNat (8 * k % 26)) ||| (n.list.getD (8 * k / 26 + 1) 0 <<< UInt64.ofNat (26 - 8 * k % 26)) else n.list.getD (8 * k / 26) 0 >>> UInt64.ofNat (8 * k % 26)).toUInt8) := rfl
      have hpl : 8 * k / 26 < n.list.length := by rw [HLN.out]; omega
      have hq : 8 * k % 26 < 26 := by omega
      generalize 8 * k % 26 = q at *
      generalize 8 * k / 26 = p at *
      have hlo := HLN.out
      have hp5' : (p : Int) < 5 := by omega
      have hq0 : (0 : Int) ≤ (q : Int) := by omega
      have r0 : IntKind.i64.wrap ((p : Int) + 1) = ((p + 1 : Nat) : Int) := by rw [IntKind.wrap_i64]; omega
      have r1 : IntKind.i64.wrap (26 - (q : Int)) = ((26 - q : Nat) : Int) := by rw [IntKind.wrap_i64]; omega
      have hr0 : (0 : Int) ≤ ((26 - q : Nat) : Int) := by omega
      have c0 := hA.out.at' p (by simpa using hpl)
      rw [List.getElem_map] at c0
      unfold U64 at c0
      have hO1 := hO.out.at' k (by simp [fillTo]; omega)
      have cz := hO.out.froz
      generalize hrr : 26 - q = rr at *
      have HRR := Lib.hid hrr; clear hrr
      clear hlo
      by_cases hp1 : p + 1 < 5
      · have hp1' : ((p + 1 : Nat) : Int) < 5 := by omega
        have hpl' : p + 1 < n.list.length := by have := HLN.out; omega
        have c1 := hA.out.at' (p + 1) (by simpa using hpl')
        rw [List.getElem_map] at c1
        unfold U64 at c1
        go_wp2
        go_roundw
        case measure => simp [intOf]; omega
        case rel =>
          have hA' := hA.out; have hO' := hO.out; have hb' := hbel.out
          refine ⟨k + 1, by omega, by go_num, by (with_reducible try refine Lib.hid ?_); (repeat (with_reducible first | assumption | (apply Blk.new' <;> (simp; done)) | apply Blk.drew | apply Blk.drewN | apply Blk.alloc | apply Blk.set | apply Blk.setOther)) <;> (try simp [length_fillTo, length_turnTo]) <;> (try omega), Lib.hid (Blk.cast (by (with_reducible try refine Lib.hid ?_); (repeat (with_reducible first | assumption | (apply Blk.new' <;> (simp; done)) | apply Blk.drew | apply Blk.drewN | apply Blk.alloc | apply Blk.set | apply Blk.setOther)) <;> (try simp [length_fillTo, length_turnTo]) <;> (try omega)) ?_), by (with_reducible try refine Lib.hid ?_); (repeat (with_reducible first | assumption | exact Below.refl _ _ | apply Below.drew | apply Below.drewN' | apply Below.setCell | apply Below.alloc)) <;> (try simp [length_fillTo, length_turnTo]) <;> (try omega)⟩
          rw [← fillTo_set]
          congr 1
          rw [HW.out, if_pos hp1]
          have h64 : min rr 64 = rr := by have := HRR.out; omega
          have hr64 : rr < 64 := by have := HRR.out; omega
          rw [h64, shl_u64 _ hr64, shrV_u64 _ (show q < 64 by omega), or_u64, byte_u64]
          simp [List.getD, hpl, hpl']
      · have hp1' : ¬ ((p + 1 : Nat) : Int) < 5 := by omega
        go_wp2
        go_roundw
        case measure => simp [intOf]; omega
        case rel =>
          have hA' := hA.out; have hO' := hO.out; have hb' := hbel.out
          refine ⟨k + 1, by omega, by go_num, by (with_reducible try refine Lib.hid ?_); (repeat (with_reducible first | assumption | (apply Blk.new' <;> (simp; done)) | apply Blk.drew | apply Blk.drewN | apply Blk.alloc | apply Blk.set | apply Blk.setOther)) <;> (try simp [length_fillTo, length_turnTo]) <;> (try omega), Lib.hid (Blk.cast (by (with_reducible try refine Lib.hid ?_); (repeat (with_reducible first | assumption | (apply Blk.new' <;> (simp; done)) | apply Blk.drew | apply Blk.drewN | apply Blk.alloc | apply Blk.set | apply Blk.setOther)) <;> (try simp [length_fillTo, length_turnTo]) <;> (try omega)) ?_), by (with_reducible try refine Lib.hid ?_); (repeat (with_reducible first | assumption | exact Below.refl _ _ | apply Below.drew | apply Below.drewN' | apply Below.setCell | apply Below.alloc)) <;> (try simp [length_fillTo, length_turnTo]) <;> (try omega)⟩
          rw [← fillTo_set]
          congr 1
          rw [HW.out, if_neg hp1, shrV_u64 _ (show q < 64 by omega), byte_u64]
          simp [List.getD, hpl]
    · obtain rfl : k = 16 := by omega
      have hO' := hO.out
      rw [fillTo_full] at hO'
      have hlen : ((List.map By (writeM n)).length : Nat) = 16 := by simp [writeM]
      go_wp2
      refine bodyPost_ret (v := .slice (some ⟨w.heap.size + 1, 0, none⟩) 16 16) (by simp [results, Try.results18, go_sem]) rfl ⟨some ⟨w.heap.size + 1, 0, none⟩, 16, by rw [hlen], ?_, hbel.out⟩
      have := hO'.cells
      simpa [writeM, Function.comp_def] using this
end Go.Proofs.Ytlheepcojeaeaaa
