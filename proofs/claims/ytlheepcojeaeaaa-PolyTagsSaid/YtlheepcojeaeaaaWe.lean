/-
  Walks of numbers of five parts: products.
-/
import Derived.Test.YtlheepcojeaeaaaWc
import Derived.Deep.QuietTactic
import Derived.BigQuiet
namespace Go.Proofs.Ytlheepcojeaeaaa
open Go.RowKit
set_option maxHeartbeats 400000
set_option linter.unusedVariables false
set_option linter.unusedSimpArgs false

theorem carry15'' (n : N5) (w : World) : Calls Try.prog 15 #[n.val] w fun r w' => r = .returned (carryM n.list).val ∧ Below w.heap.size w w' := carry15 n.a n.b n.c n.d n.e w

/-- a product's part -/
def tPart (a b : List UInt64) (i k : Nat) : UInt64 := if 5 ≤ i + k then a.getD i 0 * b.getD k 0 * 5 else a.getD i 0 * b.getD k 0
def tIn (a b : List UInt64) (i : Nat) (out : List UInt64) : Nat → List UInt64
  | 0 => out
  | k + 1 => (tIn a b i out k).set ((i + k) % 5) ((tIn a b i out k).getD ((i + k) % 5) 0 + tPart a b i k)
def tOut (a b : List UInt64) : Nat → List UInt64
  | 0 => [0, 0, 0, 0, 0]
  | i + 1 => tIn a b i (tOut a b i) 5
theorem tIn_length (a b : List UInt64) (i : Nat) (out : List UInt64) : ∀ k, (tIn a b i out k).length = out.length
  | 0 => rfl
  | k + 1 => by simp [tIn, tIn_length a b i out k]
theorem tOut_length (a b : List UInt64) : ∀ k, (tOut a b k).length = 5
  | 0 => rfl
  | k + 1 => (tIn_length a b k (tOut a b k) 5).trans (tOut_length a b k)
/-- the product -/
def timesM (a b : N5) : N5 := carryM (tOut a.list b.list 5)
theorem mul_u64 (a b : UInt64) : IntKind.u64.wrap ((a.toNat : Int) * (b.toNat : Int)) = ((a * b).toNat : Int) := by
  rw [IntKind.wrap_u64, UInt64.toNat_mul, Int.natCast_emod, Int.natCast_mul]; rfl

theorem times14 (a b : N5) (w : World) : Calls Try.prog 14 #[a.val, b.val] w fun r w' => r = .returned (timesM a b).val ∧ Below w.heap.size w w' := by
  have HM : Hid ((timesM a b).val = (carryM (tOut a.list b.list 5)).val) := rfl
  generalize (timesM a b).val = res at *
  have hla : a.list.length = 5 := rfl
  have hlb : b.list.length = 5 := rfl
  have HVA : Hid (a.list = [a.a, a.b, a.c, a.d, a.e]) := rfl
  have HVB : Hid (b.list = [b.a, b.b, b.c, b.d, b.e]) := rfl
  unfold N5.val
  go_enter Try.func14, Try.ntmps14
  go_wp2
  generalize a.list = la at *
  generalize b.list = lb at *
  have HLA := Lib.hid hla; have HLB := Lib.hid hlb; clear hla hlb
  go_loopw [9] (fun i wr => ∃ k : Nat, k ≤ 5 ∧ i = .int .i64 k ∧ Hid (Blk wr w.heap.size (la.map U64)) ∧ Hid (Blk wr (w.heap.size + 1) (lb.map U64)) ∧ Hid (Blk wr (w.heap.size + 2) ([0, 0, 0, 0, 0].map U64)) ∧ Hid (Blk wr (w.heap.size + 3) ((tOut la lb k).map U64)) ∧ Hid (Below w.heap.size w wr)) (fun i _ => 5 - (intOf i).toNat)
  case atStart =>
    refine ⟨0, by omega, rfl, ?_, ?_, ?_, ?_, by (with_reducible try refine Lib.hid ?_); (repeat (with_reducible first | assumption | exact Below.refl _ _ | apply Below.drew | apply Below.drewN' | apply Below.setCell | apply Below.alloc)) <;> (try simp [length_fillTo, length_turnTo]) <;> (try omega)⟩
    · exact Blk.cast (by (with_reducible try refine Lib.hid ?_); (repeat (with_reducible first | assumption | (apply Blk.new' <;> (simp; done)) | apply Blk.drew | apply Blk.drewN | apply Blk.alloc | apply Blk.set | apply Blk.setOther)) <;> (try simp [length_fillTo, length_turnTo]) <;> (try omega)) (by rw [HVA.out]; rfl)
    · exact Blk.cast (by (with_reducible try refine Lib.hid ?_); (repeat (with_reducible first | assumption | (apply Blk.new' <;> (simp; done)) | apply Blk.drew | apply Blk.drewN | apply Blk.alloc | apply Blk.set | apply Blk.setOther)) <;> (try simp [length_fillTo, length_turnTo]) <;> (try omega)) (by rw [HVB.out]; rfl)
    · exact Blk.cast (by (with_reducible try refine Lib.hid ?_); (repeat (with_reducible first | assumption | (apply Blk.new' <;> (simp; done)) | apply Blk.drew | apply Blk.drewN | apply Blk.alloc | apply Blk.set | apply Blk.setOther)) <;> (try simp [length_fillTo, length_turnTo]) <;> (try omega)) (by rfl)
    · exact Blk.cast (by (with_reducible try refine Lib.hid ?_); (repeat (with_reducible first | assumption | (apply Blk.new' <;> (simp; done)) | apply Blk.drew | apply Blk.drewN | apply Blk.alloc | apply Blk.set | apply Blk.setOther)) <;> (try simp [length_fillTo, length_turnTo]) <;> (try omega)) (by rfl)
  case round =>
    obtain ⟨k, hk, rfl, hA, hB, hR, hO, hbel⟩ := hrel
    by_cases hlt : k < 5
    · have hk5 : (k : Int) < 5 := by omega
      go_wp2
      go_loopw [12] (fun i wr => ∃ j : Nat, j ≤ 5 ∧ i = .int .i64 j ∧ Hid (Blk wr w.heap.size (la.map U64)) ∧ Hid (Blk wr (w.heap.size + 1) (lb.map U64)) ∧ Hid (Blk wr (w.heap.size + 2) ([0, 0, 0, 0, 0].map U64)) ∧ Hid (Blk wr (w.heap.size + 3) ((tIn la lb k (tOut la lb k) j).map U64)) ∧ Hid (Below w.heap.size w wr)) (fun i _ => 5 - (intOf i).toNat)
      case atStart => exact ⟨0, by omega, rfl, hA, hB, hR, hO, hbel⟩
      case round =>
        clear hA hB hR hO hbel
        obtain ⟨j, hj, rfl, hA, hB, hR, hO, hbel⟩ := hrel
        by_cases hjt : j < 5
        · have hj5 : (j : Int) < 5 := by omega
          have hlo := (tIn_length la lb k (tOut la lb k) j).trans (tOut_length la lb k)
          have HS : Hid (tIn la lb k (tOut la lb k) (j + 1) = (tIn la lb k (tOut la lb k) j).set ((k + j) % 5) ((tIn la lb k (tOut la lb k) j).getD ((k + j) % 5) 0 + if 5 ≤ k + j then la.getD k 0 * lb.getD j 0 * 5 else la.getD k 0 * lb.getD j 0)) := rfl
          generalize tIn la lb k (tOut la lb k) j = out at *
          have hkl : k < la.length := by rw [HLA.out]; exact hlt
          have hjl : j < lb.length := by rw [HLB.out]; exact hjt
          have hml : (k + j) % 5 < out.length := by omega
          have c0 := hA.out.at' k (by simpa using hkl)
          have c1 := hB.out.at' j (by simpa using hjl)
          have c2 := hO.out.at' ((k + j) % 5) (by simpa using hml)
          have cz := hO.out.froz
          have r0 : IntKind.i64.wrap ((k : Int) + j) = ((k + j : Nat) : Int) := by rw [IntKind.wrap_i64]; omega
          have r1 : ((k + j : Nat) : Int) % 5 = (((k + j) % 5 : Nat) : Int) := by omega
          have r2 : ((((k + j) % 5 : Nat) : Int)) < 5 := by omega
          rw [List.getElem_map] at c0 c1 c2
          unfold U64 at c0 c1 c2
          have HS2 : Hid (tIn la lb k (tOut la lb k) (j + 1) = out.set ((k + j) % 5) (out[(k + j) % 5] + if 5 ≤ k + j then la[k] * lb[j] * 5 else la[k] * lb[j])) := by
            rw [HS.out]
            simp only [List.getD_eq_getElem?_getD, List.getElem?_eq_getElem hkl, List.getElem?_eq_getElem hjl, List.getElem?_eq_getElem hml, Option.getD_some]
            trivial
          clear HS
          generalize la[k] = x at *
          generalize lb[j] = y at *
          generalize out[(k + j) % 5] = z at *
          have HLO := Lib.hid hlo; clear hlo
          generalize hm5 : (k + j) % 5 = m5 at *
          generalize hkj : k + j = kj at *
          have HM5 := Lib.hid hm5; have HKJ := Lib.hid hkj; clear hm5 hkj
          by_cases h5 : 5 ≤ kj
          · have h5' : (5 : Int) ≤ (kj : Int) := by omega
            go_wp2
            go_quiet (fail)
            go_wp2
            go_roundw
            case rel =>
              have hA' := hA.out; have hB' := hB.out; have hR' := hR.out; have hO' := hO.out; have hb' := hbel.out
              refine ⟨j + 1, by omega, by go_num, ?_, ?_, ?_, ?_, ?_⟩
              · (with_reducible try refine Lib.hid ?_); (repeat (with_reducible first | assumption | (apply Blk.new' <;> (simp; done)) | apply Blk.drew | apply Blk.drewN | apply Blk.alloc | apply Blk.set | apply Blk.setOther)) <;> (try simp [length_fillTo, length_turnTo]) <;> (try omega)
              · (with_reducible try refine Lib.hid ?_); (repeat (with_reducible first | assumption | (apply Blk.new' <;> (simp; done)) | apply Blk.drew | apply Blk.drewN | apply Blk.alloc | apply Blk.set | apply Blk.setOther)) <;> (try simp [length_fillTo, length_turnTo]) <;> (try omega)
              · (with_reducible try refine Lib.hid ?_); (repeat (with_reducible first | assumption | (apply Blk.new' <;> (simp; done)) | apply Blk.drew | apply Blk.drewN | apply Blk.alloc | apply Blk.set | apply Blk.setOther)) <;> (try simp [length_fillTo, length_turnTo]) <;> (try omega)
              · exact Blk.cast (by (with_reducible try refine Lib.hid ?_); (repeat (with_reducible first | assumption | (apply Blk.new' <;> (simp; done)) | apply Blk.drew | apply Blk.drewN | apply Blk.alloc | apply Blk.set | apply Blk.setOther)) <;> (try simp [length_fillTo, length_turnTo]) <;> (try omega)) (by rw [HS2.out, List.map_set, if_pos h5]; simp only [U64, ← add_u64, ← mul_u64]; rfl)
              · (with_reducible try refine Lib.hid ?_); (repeat (with_reducible first | assumption | exact Below.refl _ _ | apply Below.drew | apply Below.drewN' | apply Below.setCell | apply Below.alloc)) <;> (try simp [length_fillTo, length_turnTo]) <;> (try omega)
            case measure => simp [intOf]; omega
          · have h5' : ¬ (5 : Int) ≤ (kj : Int) := by omega
            go_wp2
            go_quiet (fail)
            go_wp2
            go_roundw
            case rel =>
              have hA' := hA.out; have hB' := hB.out; have hR' := hR.out; have hO' := hO.out; have hb' := hbel.out
              refine ⟨j + 1, by omega, by go_num, ?_, ?_, ?_, ?_, ?_⟩
              · (with_reducible try refine Lib.hid ?_); (repeat (with_reducible first | assumption | (apply Blk.new' <;> (simp; done)) | apply Blk.drew | apply Blk.drewN | apply Blk.alloc | apply Blk.set | apply Blk.setOther)) <;> (try simp [length_fillTo, length_turnTo]) <;> (try omega)
              · (with_reducible try refine Lib.hid ?_); (repeat (with_reducible first | assumption | (apply Blk.new' <;> (simp; done)) | apply Blk.drew | apply Blk.drewN | apply Blk.alloc | apply Blk.set | apply Blk.setOther)) <;> (try simp [length_fillTo, length_turnTo]) <;> (try omega)
              · (with_reducible try refine Lib.hid ?_); (repeat (with_reducible first | assumption | (apply Blk.new' <;> (simp; done)) | apply Blk.drew | apply Blk.drewN | apply Blk.alloc | apply Blk.set | apply Blk.setOther)) <;> (try simp [length_fillTo, length_turnTo]) <;> (try omega)
              · exact Blk.cast (by (with_reducible try refine Lib.hid ?_); (repeat (with_reducible first | assumption | (apply Blk.new' <;> (simp; done)) | apply Blk.drew | apply Blk.drewN | apply Blk.alloc | apply Blk.set | apply Blk.setOther)) <;> (try simp [length_fillTo, length_turnTo]) <;> (try omega)) (by rw [HS2.out, List.map_set, if_neg h5]; simp only [U64, ← add_u64, ← mul_u64])
              · (with_reducible try refine Lib.hid ?_); (repeat (with_reducible first | assumption | exact Below.refl _ _ | apply Below.drew | apply Below.drewN' | apply Below.setCell | apply Below.alloc)) <;> (try simp [length_fillTo, length_turnTo]) <;> (try omega)
            case measure => simp [intOf]; omega
        · obtain rfl : j = 5 := by omega
          go_wp2
          go_roundw
          case rel => exact ⟨k + 1, by omega, by go_num, hA, hB, hR, hO, hbel⟩
          case measure => simp [intOf]; omega
    · obtain rfl : k = 5 := by omega
      have hlo := tOut_length la lb 5
      have hM := five _ hlo
      have hO' := hO.out
      rw [hM] at hO'
      clear hlo hM
      have HRES : Hid (res = (carryM (N5.of (tOut la lb 5)).list).val) := by
        rw [HM.out, ← five _ (tOut_length la lb 5)]; rfl
      clear HM hO
      generalize N5.of (tOut la lb 5) = m at *
      have hO2 : Blk wr (w.heap.size + 3) [U64 m.a, U64 m.b, U64 m.c, U64 m.d, U64 m.e] := hO'
      have c0 := hO2.at' 0 (by simp); have c1 := hO2.at' 1 (by simp); have c2 := hO2.at' 2 (by simp); have c3 := hO2.at' 3 (by simp); have c4 := hO2.at' 4 (by simp); have cz := hO2.froz; have cl := hO2.lt; simp only [List.map_cons, List.map_nil, List.getElem_cons_zero, List.getElem_cons_succ, U64] at c0 c1 c2 c3 c4
      go_wp2_with fail
      refine (carry15'' m _).mono ?_
      rintro r w1 ⟨rfl, hb1⟩
      have hR2 := hR.out.later hb1
      have hB2 := below_step hbel.out hb1
      rw [← HRES.out]
      have HRES2 := HRES.out
      unfold N5.val at HRES2
      generalize carryM m.list = o at *
      have HO : Hid (res = (Value.agg #[.int .u64 (o.a.toNat : Int), .int .u64 (o.b.toNat : Int), .int .u64 (o.c.toNat : Int), .int .u64 (o.d.toNat : Int), .int .u64 (o.e.toNat : Int)])) := HRES2
      clear HRES HRES2 hb1 hA hB hR hbel hO' hO2 c0 c1 c2 c3 c4 cz cl
      have d0 := hR2.at' 0 (by simp); have d1 := hR2.at' 1 (by simp); have d2 := hR2.at' 2 (by simp); have d3 := hR2.at' 3 (by simp); have d4 := hR2.at' 4 (by simp); have dz := hR2.froz; have dl := hR2.lt; simp only [List.map_cons, List.map_nil, List.getElem_cons_zero, List.getElem_cons_succ, U64] at d0 d1 d2 d3 d4
      rw [HO.out]
      go_wp2
      refine ret5 (fn := Try.f14) rfl rfl (by (with_reducible try refine Lib.hid ?_); (repeat (with_reducible first | assumption | (apply Blk.new' <;> (simp; done)) | apply Blk.drew | apply Blk.drewN | apply Blk.alloc | apply Blk.set | apply Blk.setOther)) <;> (try simp [length_fillTo, length_turnTo]) <;> (try omega)) (by simp) rfl ⟨?_, by (with_reducible try refine Lib.hid ?_); (repeat (with_reducible first | assumption | exact Below.refl _ _ | apply Below.drew | apply Below.drewN' | apply Below.setCell | apply Below.alloc)) <;> (try simp [length_fillTo, length_turnTo]) <;> (try omega)⟩
      simp; exact HO.out.symm
end Go.Proofs.Ytlheepcojeaeaaa
