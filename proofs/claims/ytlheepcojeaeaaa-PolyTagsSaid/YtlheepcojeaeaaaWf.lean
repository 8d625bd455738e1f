/-
  Walks of numbers of five parts: reading.
-/
import Derived.Test.YtlheepcojeaeaaaWc
namespace Go.Proofs.Ytlheepcojeaeaaa
open Go.RowKit
set_option maxHeartbeats 400000
set_option linter.unusedVariables false
set_option linter.unusedSimpArgs false

theorem or_u64 (a b : UInt64) : bits .or .u64 (a.toNat : Int) (b.toNat : Int) = ((a ||| b).toNat : Int) := by
  rw [u64_or_nat _ _ a.toNat_lt b.toNat_lt, UInt64.toNat_or]
theorem wide_u64 (c : UInt8) : IntKind.u64.wrap (c.toNat : Int) = (c.toUInt64.toNat : Int) := by
  have := c.toNat_lt
  rw [IntKind.wrap_u64, UInt8.toNat_toUInt64]; omega
theorem shl_u64 (x : UInt64) {q : Nat} (h : q < 64) : IntKind.u64.wrap ((x.toNat : Int) * 2 ^ q) = ((x <<< UInt64.ofNat q).toNat : Int) := by
  rw [IntKind.wrap_u64, UInt64.toNat_shiftLeft, UInt64.toNat_ofNat', Nat.mod_eq_of_lt (show q < 2 ^ 64 by omega), Nat.mod_eq_of_lt h, Nat.shiftLeft_eq]
  rw [Int.natCast_emod, Int.natCast_mul, Int.natCast_pow]; rfl

/-- what is read, so far -/
def rIter (l : List UInt8) : Nat → List UInt64
  | 0 => [0, 0, 0, 0, 0]
  | k + 1 =>
    let x := (l.getD k 0).toUInt64 <<< (UInt64.ofNat (8 * k % 26))
    let m := (rIter l k).set (8 * k / 26) ((rIter l k).getD (8 * k / 26) 0 ||| (x &&& 67108863))
    if 8 * k / 26 + 1 < 5 then m.set (8 * k / 26 + 1) (m.getD (8 * k / 26 + 1) 0 ||| (x >>> 26)) else m
theorem rIter_length (l : List UInt8) : ∀ k, (rIter l k).length = 5
  | 0 => rfl
  | k + 1 => by simp only [rIter]; split <;> simp [rIter_length l k]
def readM (l : List UInt8) : N5 := N5.of (rIter l l.length)

theorem read13 (l : List UInt8) (w : World) (oa : Option Addr) (n c : Nat) (h : Reads w oa n l) (hn : l.length ≤ 17) : Calls Try.prog 13 #[.slice oa n c] w fun r w' => r = .returned (readM l).val ∧ Below w.heap.size w w' := by
  obtain rfl : n = l.length := h.len
  have HC := Lib.hid h.cells; clear h
  go_enter Try.func13, Try.ntmps13
  go_wp2
  go_loopw [11] (fun i wr => ∃ k : Nat, k ≤ l.length ∧ i = .int .i64 k ∧ Hid (Blk wr w.heap.size ([0, 0, 0, 0, 0].map U64)) ∧ Hid (Blk wr (w.heap.size + 1) ((rIter l k).map U64)) ∧ Hid (Below w.heap.size w wr)) (fun i _ => l.length - (intOf i).toNat)
  case atStart =>
    refine ⟨0, by omega, rfl, ?_, ?_, by (with_reducible try refine Lib.hid ?_); (repeat (with_reducible first | assumption | exact Below.refl _ _ | apply Below.drew | apply Below.drewN' | apply Below.setCell | apply Below.alloc)) <;> (try simp [length_fillTo, length_turnTo]) <;> (try omega)⟩
    · exact Blk.cast (by (with_reducible try refine Lib.hid ?_); (repeat (with_reducible first | assumption | (apply Blk.new' <;> (simp; done)) | apply Blk.drew | apply Blk.drewN | apply Blk.alloc | apply Blk.set | apply Blk.setOther)) <;> (try simp [length_fillTo, length_turnTo]) <;> (try omega)) (by rfl)
    · exact Blk.cast (by (with_reducible try refine Lib.hid ?_); (repeat (with_reducible first | assumption | (apply Blk.new' <;> (simp; done)) | apply Blk.drew | apply Blk.drewN | apply Blk.alloc | apply Blk.set | apply Blk.setOther)) <;> (try simp [length_fillTo, length_turnTo]) <;> (try omega)) (by rfl)
  case round =>
    obtain ⟨k, hk, rfl, hR, hO, hbel⟩ := hrel
    by_cases hlt : k < l.length
    · have hk5 : (k : Int) < (l.length : Int) := by omega
      obtain ⟨b, o, rfl, hb, hc⟩ := (HC.out.below hbel.out (Nat.le_refl _)).bytes hlt
      go_wp2_with fail
      refine (bit24 k _ (by omega)).mono ?_
      rintro r w' ⟨rfl, rfl⟩
      have hlo := rIter_length l k
      have hpl : 8 * k / 26 < (rIter l k).length := by rw [hlo]; omega
      have hq : 8 * k % 26 < 26 := by omega
      have HS : Hid (rIter l (k + 1) = if 8 * k / 26 + 1 < 5 then ((rIter l k).set (8 * k / 26) ((rIter l k).getD (8 * k / 26) 0 ||| ((l.getD k 0).toUInt64 <<< (UInt64.ofNat (8 * k % 26)) &&& 67108863))).set (8 * k / 26 + 1) (((rIter l k).set (8 * k / 26) ((rIter l k).getD (8 * k / 26) 0 ||| ((l.getD k 0).toUInt64 <<< (UInt64.ofNat (8 * k % 26)) &&& 67108863))).getD (8 * k / 26 + 1) 0 ||| ((l.getD k 0).toUInt64 <<< (UInt64.ofNat (8 * k % 26)) >>> 26)) else (rIter l k).set (8 * k / 26) ((rIter l k).getD (8 * k / 26) 0 ||| ((l.getD k 0).toUInt64 <<< (UInt64.ofNat (8 * k % 26)) &&& 67108863))) := rfl
      generalize 8 * k % 26 = q at *
      generalize 8 * k / 26 = p at *
      generalize rIter l k = out at *
      have hp5 : p < 5 := by omega
      have hq64 : q < 64 := by omega
      have hp5' : (p : Int) < 5 := by omega
      have hq0 : (0 : Int) ≤ (q : Int) := by omega
      have r0 : IntKind.i64.wrap ((p : Int) + 1) = ((p + 1 : Nat) : Int) := by rw [IntKind.wrap_i64]; omega
      have c0 := hO.out.at' p (by simpa using hpl)
      rw [List.getElem_map] at c0
      unfold U64 at c0
      have cz := hO.out.froz
      by_cases hp1 : p + 1 < 5
      · have hp1' : ((p + 1 : Nat) : Int) < 5 := by omega
        have hpl' : p + 1 < out.length := by omega
        have c1 := hO.out.at' (p + 1) (by simpa using hpl')
        rw [List.getElem_map] at c1
        unfold U64 at c1
        go_wp2
        go_roundw
        case measure => simp [intOf]; omega
        case rel =>
          have hR' := hR.out; have hO' := hO.out; have hb' := hbel.out
          refine ⟨k + 1, by omega, by go_num, ?_, ?_, ?_⟩
          · (with_reducible try refine Lib.hid ?_); (repeat (with_reducible first | assumption | (apply Blk.new' <;> (simp; done)) | apply Blk.drew | apply Blk.drewN | apply Blk.alloc | apply Blk.set | apply Blk.setOther)) <;> (try simp [length_fillTo, length_turnTo]) <;> (try omega)
          · refine Lib.hid (Blk.cast (by (with_reducible try refine Lib.hid ?_); (repeat (with_reducible first | assumption | (apply Blk.new' <;> (simp; done)) | apply Blk.drew | apply Blk.drewN | apply Blk.alloc | apply Blk.set | apply Blk.setOther)) <;> (try simp [length_fillTo, length_turnTo]) <;> (try omega)) ?_)
            rw [HS.out, if_pos hp1, List.map_set, List.map_set]
            simp only [U64, ← or_u64, ← mask_u64, ← shr26_u64, ← shl_u64 _ hq64, ← wide_u64, List.getD_eq_getElem?_getD, List.getElem?_set, List.getElem?_eq_getElem hpl, List.getElem?_eq_getElem hpl', List.getElem?_eq_getElem hlt, Option.getD_some, if_neg (show ¬ p = p + 1 by omega)]
          · (with_reducible try refine Lib.hid ?_); (repeat (with_reducible first | assumption | exact Below.refl _ _ | apply Below.drew | apply Below.drewN' | apply Below.setCell | apply Below.alloc)) <;> (try simp [length_fillTo, length_turnTo]) <;> (try omega)
      · have hp1' : ¬ ((p + 1 : Nat) : Int) < 5 := by omega
        go_wp2
        go_roundw
        case measure => simp [intOf]; omega
        case rel =>
          have hR' := hR.out; have hO' := hO.out; have hb' := hbel.out
          refine ⟨k + 1, by omega, by go_num, ?_, ?_, ?_⟩
          · (with_reducible try refine Lib.hid ?_); (repeat (with_reducible first | assumption | (apply Blk.new' <;> (simp; done)) | apply Blk.drew | apply Blk.drewN | apply Blk.alloc | apply Blk.set | apply Blk.setOther)) <;> (try simp [length_fillTo, length_turnTo]) <;> (try omega)
          · refine Lib.hid (Blk.cast (by (with_reducible try refine Lib.hid ?_); (repeat (with_reducible first | assumption | (apply Blk.new' <;> (simp; done)) | apply Blk.drew | apply Blk.drewN | apply Blk.alloc | apply Blk.set | apply Blk.setOther)) <;> (try simp [length_fillTo, length_turnTo]) <;> (try omega)) ?_)
            rw [HS.out, if_neg hp1, List.map_set]
            simp only [U64, ← or_u64, ← mask_u64, ← shr26_u64, ← shl_u64 _ hq64, ← wide_u64, List.getD_eq_getElem?_getD, List.getElem?_eq_getElem hpl, List.getElem?_eq_getElem hlt, Option.getD_some]
          · (with_reducible try refine Lib.hid ?_); (repeat (with_reducible first | assumption | exact Below.refl _ _ | apply Below.drew | apply Below.drewN' | apply Below.setCell | apply Below.alloc)) <;> (try simp [length_fillTo, length_turnTo]) <;> (try omega)
    · obtain rfl : k = l.length := by omega
      have hM := five _ (rIter_length l l.length)
      have HM : Hid (readM l = N5.of (rIter l l.length)) := rfl
      have hO' := hO.out
      rw [hM] at hO'
      clear hM
      generalize N5.of (rIter l l.length) = m at *
      have hO2 : Blk wr (w.heap.size + 1) [U64 m.a, U64 m.b, U64 m.c, U64 m.d, U64 m.e] := hO'
      have hR2 := hR.out; have hB2 := hbel.out
      have c0 := hO2.at' 0 (by simp); have c1 := hO2.at' 1 (by simp); have c2 := hO2.at' 2 (by simp); have c3 := hO2.at' 3 (by simp); have c4 := hO2.at' 4 (by simp); have cz := hO2.froz; have cl := hO2.lt; simp only [List.map_cons, List.map_nil, List.getElem_cons_zero, List.getElem_cons_succ, U64] at c0 c1 c2 c3 c4
      have d0 := hR2.at' 0 (by simp); have d1 := hR2.at' 1 (by simp); have d2 := hR2.at' 2 (by simp); have d3 := hR2.at' 3 (by simp); have d4 := hR2.at' 4 (by simp); have dz := hR2.froz; have dl := hR2.lt; simp only [List.map_cons, List.map_nil, List.getElem_cons_zero, List.getElem_cons_succ, U64] at d0 d1 d2 d3 d4
      clear hR hO hbel hO'
      go_wp2
      refine ret5 (fn := Try.f13) rfl rfl (by (with_reducible try refine Lib.hid ?_); (repeat (with_reducible first | assumption | (apply Blk.new' <;> (simp; done)) | apply Blk.drew | apply Blk.drewN | apply Blk.alloc | apply Blk.set | apply Blk.setOther)) <;> (try simp [length_fillTo, length_turnTo]) <;> (try omega)) (by simp) rfl ⟨?_, by (with_reducible try refine Lib.hid ?_); (repeat (with_reducible first | assumption | exact Below.refl _ _ | apply Below.drew | apply Below.drewN' | apply Below.setCell | apply Below.alloc)) <;> (try simp [length_fillTo, length_turnTo]) <;> (try omega)⟩
      rw [HM.out]; simp [N5.val]
end Go.Proofs.Ytlheepcojeaeaaa
