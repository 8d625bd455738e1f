/-
  Walks of numbers of five parts: the number and five, the least number.
-/
import Derived.Test.YtlheepcojeaeaaaWb
namespace Go.Proofs.Ytlheepcojeaeaaa
open Go.RowKit
set_option maxHeartbeats 400000
set_option linter.unusedVariables false
set_option linter.unusedSimpArgs false

/-- carries upward, so far -/
def fIter (n : List UInt64) : Nat → List UInt64
  | 0 => n
  | k + 1 => ((fIter n k).set (k + 1) ((fIter n k).getD (k + 1) 0 + ((fIter n k).getD k 0 >>> 26))).set k ((fIter n k).getD k 0 &&& 67108863)
theorem fIter_length (n : List UInt64) : ∀ k, (fIter n k).length = n.length
  | 0 => rfl
  | k + 1 => by simp [fIter, fIter_length n k]

/-- the number and five -/
def five5 (n : N5) : N5 := N5.of (fIter [n.a + 5, n.b, n.c, n.d, n.e] 4)

theorem add5_u64 (a : UInt64) : IntKind.u64.wrap ((a.toNat : Int) + 5) = ((a + 5).toNat : Int) := add_u64 a 5

/-- a result that lies in a block of five words -/
theorem ret5 {fn : Func} {t : Nat} (h : fn.results = #[.cell t 36]) {R : Ending → World → Prop} {a : Act} {w : World} {b : Nat} {cs : List Value}
    (ht : a.tmps.getD t undef = .pointer (some ⟨b, 0, none⟩)) (hB : Blk w b cs) (hl : cs.length = 5) (hd : a.defers = []) (hR : R (.returned (.agg cs.toArray)) w) :
    bodyPost Try.prog fn R .ret a w := by
  match cs, hl with
  | [v0, v1, v2, v3, v4], _ =>
  have e0 := hB.at' 0 (by simp); have e1 := hB.at' 1 (by simp); have e2 := hB.at' 2 (by simp); have e3 := hB.at' 3 (by simp); have e4 := hB.at' 4 (by simp)
  simp only [List.getElem_cons_zero, List.getElem_cons_succ] at e0 e1 e2 e3 e4
  have ht' : (a.tmps[t]?).getD undef = .pointer (some ⟨b, 0, none⟩) := by simpa using ht
  refine bodyPost_ret (v := .agg #[v0, v1, v2, v3, v4]) ?_ hd hR
  simp [results, h, go_sem, ht', e0, e1, e2, e3, e4]

/-- a new row of 16 bytes -/
theorem mk16 (w : World) : (Instr.makeSlice 23 (.int .i64 16) (.int .i64 16)).run Try.prog w = .ok (.slice (some ⟨w.heap.size, 0, none⟩) 16 16) (w.alloc (.cells (List.replicate 16 (By 0)).toArray 5)) :=
  run_make_blk w 23 5 (.int .u8 0) 1 rfl (by kernel_rfl) rfl .i64 .i64 16 (by omega) (by simp [maxLen])

theorem carry25 (n : N5) (w : World) :
    Calls Try.prog 25 #[.agg #[.int .u64 (n.a.toNat : Int), .int .u64 (n.b.toNat : Int), .int .u64 (n.c.toNat : Int), .int .u64 (n.d.toNat : Int), .int .u64 (n.e.toNat : Int)]] w fun r w' => r = .returned (five5 n).val ∧ Below w.heap.size w w' := by
  go_enter Try.func25, Try.ntmps25
  go_wp2
  have hl0 : [n.a + 5, n.b, n.c, n.d, n.e].length = 5 := rfl
  generalize hm : [n.a + 5, n.b, n.c, n.d, n.e] = m at *
  have HM := Lib.hid hm; have HL0 := Lib.hid hl0; clear hm hl0
  go_loopw [8] (fun i wr => ∃ k : Nat, k ≤ 4 ∧ i = .int .i64 k ∧ Hid (Blk wr w.heap.size ((fIter m k).map U64)) ∧ Hid (Blk wr (w.heap.size + 1) ([0, 0, 0, 0, 0].map U64)) ∧ Hid (Below w.heap.size w wr)) (fun i _ => 4 - (intOf i).toNat)
  case atStart =>
    refine ⟨0, by omega, rfl, ?_, ?_, ?_⟩
    · exact Blk.cast (by (with_reducible try refine Lib.hid ?_); (repeat (with_reducible first | assumption | (apply Blk.new' <;> (simp; done)) | apply Blk.drew | apply Blk.drewN | apply Blk.alloc | apply Blk.set | apply Blk.setOther)) <;> (try simp [length_fillTo, length_turnTo]) <;> (try omega)) (by rw [add5_u64, ← HM.out]; rfl)
    · exact Blk.new' (cs := [U64 0, U64 0, U64 0, U64 0, U64 0]) (by simp)
    · (with_reducible try refine Lib.hid ?_); (repeat (with_reducible first | assumption | exact Below.refl _ _ | apply Below.drew | apply Below.drewN' | apply Below.setCell | apply Below.alloc)) <;> (try simp [length_fillTo, length_turnTo]) <;> (try omega)
  case round =>
    obtain ⟨k, hk, rfl, hA, hR, hbel⟩ := hrel
    by_cases hlt : k < 4
    · have hlen := (fIter_length m k).trans HL0.out
      have hkl : k < (fIter m k).length := by omega
      have hkl' : k + 1 < (fIter m k).length := by omega
      have hc := hA.out.at' k (by simpa using hkl)
      have hc' := hA.out.at' (k + 1) (by simpa using hkl')
      have hf := hA.out.froz
      rw [List.getElem_map] at hc hc'
      unfold U64 at hc hc'
      have hk5 : (k : Int) < 4 := by omega
      have HS : Hid (fIter m (k + 1) = ((fIter m k).set (k + 1) ((fIter m k)[k + 1] + ((fIter m k)[k] >>> 26))).set k ((fIter m k)[k] &&& 67108863)) := by
        show fIter m (k + 1) = _
        simp [fIter, List.getD, hkl, hkl']
      have HLEN := Lib.hid hlen
      generalize (fIter m k)[k] = x at *
      generalize (fIter m k)[k + 1] = y at *
      have hk1 : ((k : Int) + 1).toNat = k + 1 := by omega
      have hk2 : IntKind.i64.wrap ((k : Int) + 1) = ((k + 1 : Nat) : Int) := by rw [IntKind.wrap_i64]; omega
      have hk3 : ((k + 1 : Nat) : Int) < 5 := by omega
      clear hlen
      go_wp2
      go_region
      go_wp2
      go_roundw
      case rel =>
        have hA' := hA.out; have hR' := hR.out; have hb' := hbel.out
        refine ⟨k + 1, by omega, by go_num, ?_, ?_, ?_⟩
        · exact Blk.cast (by (with_reducible try refine Lib.hid ?_); (repeat (with_reducible first | assumption | (apply Blk.new' <;> (simp; done)) | apply Blk.drew | apply Blk.drewN | apply Blk.alloc | apply Blk.set | apply Blk.setOther)) <;> (try simp [length_fillTo, length_turnTo]) <;> (try omega)) (by rw [HS.out, List.map_set, List.map_set]; simp only [U64, ← add_u64, ← mask_u64, ← shr26_u64])
        · (with_reducible try refine Lib.hid ?_); (repeat (with_reducible first | assumption | (apply Blk.new' <;> (simp; done)) | apply Blk.drew | apply Blk.drewN | apply Blk.alloc | apply Blk.set | apply Blk.setOther)) <;> (try simp [length_fillTo, length_turnTo]) <;> (try omega)
        · (with_reducible try refine Lib.hid ?_); (repeat (with_reducible first | assumption | exact Below.refl _ _ | apply Below.drew | apply Below.drewN' | apply Below.setCell | apply Below.alloc)) <;> (try simp [length_fillTo, length_turnTo]) <;> (try omega)
      case measure => simp [intOf]; omega
    · obtain rfl : k = 4 := by omega
      have hl := (fIter_length m 4).trans HL0.out
      have hM := five _ hl
      have hcm : five5 n = N5.of (fIter m 4) := by rw [← HM.out]; rfl
      have hA' := hA.out
      rw [hM] at hA'
      clear hl hM
      generalize N5.of (fIter m 4) = m' at *
      obtain ⟨m0, m1, m2, m3, m4⟩ := m'
      have c0 := hA'.at' 0 (by simp [N5.list]); have c1 := hA'.at' 1 (by simp [N5.list]); have c2 := hA'.at' 2 (by simp [N5.list]); have c3 := hA'.at' 3 (by simp [N5.list]); have c4 := hA'.at' 4 (by simp [N5.list])
      have d0 := hR.out.at' 0 (by simp); have d1 := hR.out.at' 1 (by simp); have d2 := hR.out.at' 2 (by simp); have d3 := hR.out.at' 3 (by simp); have d4 := hR.out.at' 4 (by simp)
      have g := hR.out.froz
      simp only [List.map_cons, List.getElem_cons_zero, List.getElem_cons_succ, U64, N5.list] at c0 c1 c2 c3 c4 d0 d1 d2 d3 d4
      have HCM := Lib.hid hcm; clear hcm
      go_wp2
      have hR' := hR.out; have hb' := hbel.out
      refine ret5 (fn := Try.f25) rfl rfl (by (with_reducible try refine Lib.hid ?_); (repeat (with_reducible first | assumption | (apply Blk.new' <;> (simp; done)) | apply Blk.drew | apply Blk.drewN | apply Blk.alloc | apply Blk.set | apply Blk.setOther)) <;> (try simp [length_fillTo, length_turnTo]) <;> (try omega)) (by simp) rfl ⟨?_, by (with_reducible try refine Lib.hid ?_); (repeat (with_reducible first | assumption | exact Below.refl _ _ | apply Below.drew | apply Below.drewN' | apply Below.setCell | apply Below.alloc)) <;> (try simp [length_fillTo, length_turnTo]) <;> (try omega)⟩
      rw [HCM.out]
      simp [N5.val]
end Go.Proofs.Ytlheepcojeaeaaa
