/-
  Walk: the document's answer's quarters.
-/
import Derived.Test.YtliemmdadfpdjaaWa
namespace Go.Proofs.Ytliemmdadfpdjaa
open Go.RowKit
set_option maxHeartbeats 1000000
set_option linter.unusedVariables false
set_option linter.unusedSimpArgs false

def turnsL : List Nat := [16, 12, 8, 7]
def rIter (q : Q4) : Nat → Q4
  | 0 => q
  | k + 1 => qStep (rIter q k) k (turnsL.getD k 0)

theorem refQuarter8 (a b c d : UInt32) (w : World) : Calls Try.prog 8 #[.int .u32 (a.toNat : Int), .int .u32 (b.toNat : Int), .int .u32 (c.toNat : Int), .int .u32 (d.toNat : Int)] w fun r w' => r = .returned (qM ⟨a, b, c, d⟩).val ∧ Below w.heap.size w w' := by
  go_enter Try.func8, Try.ntmps8
  go_wp2
  go_loopw [0, 1, 2, 3, 13] (fun a' b' c' d' i wr => ∃ k : Nat, k ≤ 4 ∧ i = .int .i64 k ∧ a' = U32 (rIter ⟨a, b, c, d⟩ k).a ∧ b' = U32 (rIter ⟨a, b, c, d⟩ k).b ∧ c' = U32 (rIter ⟨a, b, c, d⟩ k).c ∧ d' = U32 (rIter ⟨a, b, c, d⟩ k).d ∧ Hid (Blk wr w.heap.size [.int .u64 16, .int .u64 12, .int .u64 8, .int .u64 7]) ∧ Hid (Below w.heap.size w wr)) (fun _ _ _ _ i _ => 4 - (intOf i).toNat)
  case atStart => exact ⟨0, by omega, rfl, rfl, rfl, rfl, rfl, Lib.hid (Blk.cast (by (with_reducible try refine Lib.hid ?_); (repeat (with_reducible first | assumption | (apply Blk.new' <;> (simp; done)) | apply Blk.drew | apply Blk.drewN | apply Blk.alloc | apply Blk.set | apply Blk.setOther)) <;> (try simp [length_fillTo, length_turnTo]) <;> (try omega)) rfl), by (with_reducible try refine Lib.hid ?_); (repeat (with_reducible first | assumption | exact Below.refl _ _ | apply Below.drew | apply Below.drewN' | apply Below.setCell | apply Below.alloc)) <;> (try simp [length_fillTo, length_turnTo]) <;> (try omega)⟩
  case round =>
    obtain ⟨k, hk, rfl, rfl, rfl, rfl, rfl, hT, hbel⟩ := hrel
    have c0 := hT.out.at' 0 (by simp); have c1 := hT.out.at' 1 (by simp); have c2 := hT.out.at' 2 (by simp); have c3 := hT.out.at' 3 (by simp)
    simp only [List.getElem_cons_zero, List.getElem_cons_succ] at c0 c1 c2 c3
    by_cases hlt : k < 4
    · have hk5 : (k : Int) < 4 := by omega
      have hcase : k = 0 ∨ k = 1 ∨ k = 2 ∨ k = 3 := by omega
      rcases hcase with rfl | rfl | rfl | rfl
      · -- round 0
        have HS : Hid (rIter ⟨a, b, c, d⟩ 1 = ⟨(rIter ⟨a, b, c, d⟩ 0).a + (rIter ⟨a, b, c, d⟩ 0).b, (rIter ⟨a, b, c, d⟩ 0).b, (rIter ⟨a, b, c, d⟩ 0).c, rotM ((rIter ⟨a, b, c, d⟩ 0).d ^^^ ((rIter ⟨a, b, c, d⟩ 0).a + (rIter ⟨a, b, c, d⟩ 0).b)) 16⟩) := rfl
        generalize rIter ⟨a, b, c, d⟩ 0 = q at *
        have r0 := add_u32 q.a q.b
        obtain ⟨s, hs⟩ : ∃ z, q.a + q.b = z := ⟨_, rfl⟩
        rw [hs] at r0
        have r1 := xor_u32 q.d s
        obtain ⟨x, hx⟩ : ∃ z, q.d ^^^ s = z := ⟨_, rfl⟩
        rw [hx] at r1
        have HSS := Lib.hid hs; have HX := Lib.hid hx; clear hs hx
        unfold U32
        go_wp2_with fail
        refine (left15 x 16 wr (by omega)).mono ?_
        rintro r w' ⟨rfl, hw'⟩
        rw [hw']; clear hw' w'
        obtain ⟨y, hy⟩ : ∃ z, rotM x 16 = z := ⟨_, rfl⟩
        rw [hy]
        have HY := Lib.hid hy; clear hy
        unfold U32
        go_wp2
        go_roundw
        case measure => (simp [intOf]) <;> omega
        case rel =>
          refine ⟨1, by omega, by go_num, ?_, ?_, ?_, ?_, hT, hbel⟩
          all_goals (simp only [HS.out, U32, HSS.out, HX.out, HY.out])
      · -- round 1
        have HS : Hid (rIter ⟨a, b, c, d⟩ 2 = ⟨(rIter ⟨a, b, c, d⟩ 1).a, rotM ((rIter ⟨a, b, c, d⟩ 1).b ^^^ ((rIter ⟨a, b, c, d⟩ 1).c + (rIter ⟨a, b, c, d⟩ 1).d)) 12, (rIter ⟨a, b, c, d⟩ 1).c + (rIter ⟨a, b, c, d⟩ 1).d, (rIter ⟨a, b, c, d⟩ 1).d⟩) := rfl
        generalize rIter ⟨a, b, c, d⟩ 1 = q at *
        have r0 := add_u32 q.c q.d
        obtain ⟨s, hs⟩ : ∃ z, q.c + q.d = z := ⟨_, rfl⟩
        rw [hs] at r0
        have r1 := xor_u32 q.b s
        obtain ⟨x, hx⟩ : ∃ z, q.b ^^^ s = z := ⟨_, rfl⟩
        rw [hx] at r1
        have HSS := Lib.hid hs; have HX := Lib.hid hx; clear hs hx
        unfold U32
        go_wp2_with fail
        refine (left15 x 12 wr (by omega)).mono ?_
        rintro r w' ⟨rfl, hw'⟩
        rw [hw']; clear hw' w'
        obtain ⟨y, hy⟩ : ∃ z, rotM x 12 = z := ⟨_, rfl⟩
        rw [hy]
        have HY := Lib.hid hy; clear hy
        unfold U32
        go_wp2
        go_roundw
        case measure => (simp [intOf]) <;> omega
        case rel =>
          refine ⟨2, by omega, by go_num, ?_, ?_, ?_, ?_, hT, hbel⟩
          all_goals (simp only [HS.out, U32, HSS.out, HX.out, HY.out])
      · -- round 2
        have HS : Hid (rIter ⟨a, b, c, d⟩ 3 = ⟨(rIter ⟨a, b, c, d⟩ 2).a + (rIter ⟨a, b, c, d⟩ 2).b, (rIter ⟨a, b, c, d⟩ 2).b, (rIter ⟨a, b, c, d⟩ 2).c, rotM ((rIter ⟨a, b, c, d⟩ 2).d ^^^ ((rIter ⟨a, b, c, d⟩ 2).a + (rIter ⟨a, b, c, d⟩ 2).b)) 8⟩) := rfl
        generalize rIter ⟨a, b, c, d⟩ 2 = q at *
        have r0 := add_u32 q.a q.b
        obtain ⟨s, hs⟩ : ∃ z, q.a + q.b = z := ⟨_, rfl⟩
        rw [hs] at r0
        have r1 := xor_u32 q.d s
        obtain ⟨x, hx⟩ : ∃ z, q.d ^^^ s = z := ⟨_, rfl⟩
        rw [hx] at r1
        have HSS := Lib.hid hs; have HX := Lib.hid hx; clear hs hx
        unfold U32
        go_wp2_with fail
        refine (left15 x 8 wr (by omega)).mono ?_
        rintro r w' ⟨rfl, hw'⟩
        rw [hw']; clear hw' w'
        obtain ⟨y, hy⟩ : ∃ z, rotM x 8 = z := ⟨_, rfl⟩
        rw [hy]
        have HY := Lib.hid hy; clear hy
        unfold U32
        go_wp2
        go_roundw
        case measure => (simp [intOf]) <;> omega
        case rel =>
          refine ⟨3, by omega, by go_num, ?_, ?_, ?_, ?_, hT, hbel⟩
          all_goals (simp only [HS.out, U32, HSS.out, HX.out, HY.out])
      · -- round 3
        have HS : Hid (rIter ⟨a, b, c, d⟩ 4 = ⟨(rIter ⟨a, b, c, d⟩ 3).a, rotM ((rIter ⟨a, b, c, d⟩ 3).b ^^^ ((rIter ⟨a, b, c, d⟩ 3).c + (rIter ⟨a, b, c, d⟩ 3).d)) 7, (rIter ⟨a, b, c, d⟩ 3).c + (rIter ⟨a, b, c, d⟩ 3).d, (rIter ⟨a, b, c, d⟩ 3).d⟩) := rfl
        generalize rIter ⟨a, b, c, d⟩ 3 = q at *
        have r0 := add_u32 q.c q.d
        obtain ⟨s, hs⟩ : ∃ z, q.c + q.d = z := ⟨_, rfl⟩
        rw [hs] at r0
        have r1 := xor_u32 q.b s
        obtain ⟨x, hx⟩ : ∃ z, q.b ^^^ s = z := ⟨_, rfl⟩
        rw [hx] at r1
        have HSS := Lib.hid hs; have HX := Lib.hid hx; clear hs hx
        unfold U32
        go_wp2_with fail
        refine (left15 x 7 wr (by omega)).mono ?_
        rintro r w' ⟨rfl, hw'⟩
        rw [hw']; clear hw' w'
        obtain ⟨y, hy⟩ : ∃ z, rotM x 7 = z := ⟨_, rfl⟩
        rw [hy]
        have HY := Lib.hid hy; clear hy
        unfold U32
        go_wp2
        go_roundw
        case measure => (simp [intOf]) <;> omega
        case rel =>
          refine ⟨4, by omega, by go_num, ?_, ?_, ?_, ?_, hT, hbel⟩
          all_goals (simp only [HS.out, U32, HSS.out, HX.out, HY.out])
    · obtain rfl : k = 4 := by omega
      have HF : Hid (rIter ⟨a, b, c, d⟩ 4 = qM ⟨a, b, c, d⟩) := qM_steps _
      have HB := hbel
      generalize rIter ⟨a, b, c, d⟩ 4 = q at *
      unfold U32
      go_wp2
      refine bodyPost_ret (v := .tuple #[U32 q.a, U32 q.b, U32 q.c, U32 q.d]) (by simp [results, Try.results8, go_sem, U32]) rfl ⟨?_, HB.out⟩
      rw [← HF.out]; rfl
end Go.Proofs.Ytliemmdadfpdjaa
