/-
  Walks of numbers of five parts: the least number.
-/
import Derived.Test.YtlheepcojeaeaaaWc
namespace Go.Proofs.Ytlheepcojeaeaaa
open Go.RowKit
set_option maxHeartbeats 400000
set_option linter.unusedVariables false
set_option linter.unusedSimpArgs false

theorem carry15' (n : N5) (w : World) : Calls Try.prog 15 #[n.val] w fun r w' => r = .returned (carryM n.list).val ∧ Below w.heap.size w w' := carry15 n.a n.b n.c n.d n.e w
theorem carry25' (n : N5) (w : World) : Calls Try.prog 25 #[n.val] w fun r w' => r = .returned (five5 n).val ∧ Below w.heap.size w w' := carry25 n w

/-- the least number -/
def leastM (n : N5) : N5 :=
  let m := carryM (carryM n.list).list
  let o := five5 m
  if o.e >>> 26 = 0 then m else ⟨o.a, o.b, o.c, o.d, o.e &&& 67108863⟩

theorem least19 (n : N5) (w : World) : Calls Try.prog 19 #[n.val] w fun r w' => r = .returned (leastM n).val ∧ Below w.heap.size w w' := by
  have HM : Hid (leastM n = (if (five5 (carryM (carryM n.list).list)).e >>> 26 = 0 then carryM (carryM n.list).list else ⟨(five5 (carryM (carryM n.list).list)).a, (five5 (carryM (carryM n.list).list)).b, (five5 (carryM (carryM n.list).list)).c, (five5 (carryM (carryM n.list).list)).d, (five5 (carryM (carryM n.list).list)).e &&& 67108863⟩)) := rfl
  unfold N5.val
  go_enter Try.func19, Try.ntmps19
  go_wp2_with fail
  refine (carry15' n _).mono ?_
  rintro r w1 ⟨rfl, hb1⟩
  generalize carryM n.list = m1 at *
  unfold N5.val
  have hA1 : Blk w1 w.heap.size [U64 n.a, U64 n.b, U64 n.c, U64 n.d, U64 n.e] := Blk.cast (Blk.later (by (with_reducible try refine Lib.hid ?_); (repeat (with_reducible first | assumption | (apply Blk.new' <;> (simp; done)) | apply Blk.drew | apply Blk.drewN | apply Blk.alloc | apply Blk.set | apply Blk.setOther)) <;> (try simp [length_fillTo, length_turnTo]) <;> (try omega)) hb1) (by rfl)
  have hR1 : Blk w1 (w.heap.size + 1) [U64 0, U64 0, U64 0, U64 0, U64 0] := Blk.cast (Blk.later (by (with_reducible try refine Lib.hid ?_); (repeat (with_reducible first | assumption | (apply Blk.new' <;> (simp; done)) | apply Blk.drew | apply Blk.drewN | apply Blk.alloc | apply Blk.set | apply Blk.setOther)) <;> (try simp [length_fillTo, length_turnTo]) <;> (try omega)) hb1) (by rfl)
  have hB1 : Below w.heap.size w w1 := below_step (by (with_reducible try refine Lib.hid ?_); (repeat (with_reducible first | assumption | exact Below.refl _ _ | apply Below.drew | apply Below.drewN' | apply Below.setCell | apply Below.alloc)) <;> (try simp [length_fillTo, length_turnTo]) <;> (try omega)) hb1
  clear hb1
  go_wp2_with fail
  refine (carry15' m1 _).mono ?_
  rintro r w2 ⟨rfl, hb2⟩
  generalize carryM m1.list = m2 at *
  unfold N5.val
  have hA2 := hA1.later hb2; have hR2 := hR1.later hb2; have hB2 := below_step hB1 hb2
  clear hb2 hA1 hR1 hB1
  have c0 := hA2.at' 0 (by simp); have c1 := hA2.at' 1 (by simp); have c2 := hA2.at' 2 (by simp); have c3 := hA2.at' 3 (by simp); have c4 := hA2.at' 4 (by simp); have cz := hA2.froz; have cl := hA2.lt; simp only [List.map_cons, List.map_nil, List.getElem_cons_zero, List.getElem_cons_succ, U64] at c0 c1 c2 c3 c4
  go_wp2_with fail
  refine (carry25' m2 _).mono ?_
  rintro r w3 ⟨rfl, hb3⟩
  generalize five5 m2 = o at *
  unfold N5.val
  have hA3 : Blk w3 w.heap.size [U64 m2.a, U64 m2.b, U64 m2.c, U64 m2.d, U64 m2.e] := Blk.cast (Blk.later (by (with_reducible try refine Lib.hid ?_); (repeat (with_reducible first | assumption | (apply Blk.new' <;> (simp; done)) | apply Blk.drew | apply Blk.drewN | apply Blk.alloc | apply Blk.set | apply Blk.setOther)) <;> (try simp [length_fillTo, length_turnTo]) <;> (try omega)) hb3) (by rfl)
  have hR3 : Blk w3 (w.heap.size + 1) [U64 0, U64 0, U64 0, U64 0, U64 0] := Blk.cast (Blk.later (by (with_reducible try refine Lib.hid ?_); (repeat (with_reducible first | assumption | (apply Blk.new' <;> (simp; done)) | apply Blk.drew | apply Blk.drewN | apply Blk.alloc | apply Blk.set | apply Blk.setOther)) <;> (try simp [length_fillTo, length_turnTo]) <;> (try omega)) hb3) (by rfl)
  have hB3 : Below w.heap.size w w3 := below_step (by (with_reducible try refine Lib.hid ?_); (repeat (with_reducible first | assumption | exact Below.refl _ _ | apply Below.drew | apply Below.drewN' | apply Below.setCell | apply Below.alloc)) <;> (try simp [length_fillTo, length_turnTo]) <;> (try omega)) hb3
  clear hb3 hA2 hR2 hB2 c0 c1 c2 c3 c4 cz cl
  have c0 := hA3.at' 0 (by simp); have c1 := hA3.at' 1 (by simp); have c2 := hA3.at' 2 (by simp); have c3 := hA3.at' 3 (by simp); have c4 := hA3.at' 4 (by simp); have cz := hA3.froz; have cl := hA3.lt; simp only [List.map_cons, List.map_nil, List.getElem_cons_zero, List.getElem_cons_succ, U64] at c0 c1 c2 c3 c4
  have d0 := hR3.at' 0 (by simp); have d1 := hR3.at' 1 (by simp); have d2 := hR3.at' 2 (by simp); have d3 := hR3.at' 3 (by simp); have d4 := hR3.at' 4 (by simp); have dz := hR3.froz; have dl := hR3.lt; simp only [List.map_cons, List.map_nil, List.getElem_cons_zero, List.getElem_cons_succ, U64] at d0 d1 d2 d3 d4
  have r1 := shr26_u64 o.e
  by_cases hz : o.e >>> 26 = 0
  · have hz' : ((o.e >>> 26).toNat : Int) = 0 := by rw [hz]; rfl
    rw [hz'] at r1
    have HZ := Lib.hid hz; clear hz hz'
    go_wp2
    refine ret5 (fn := Try.f19) rfl rfl (by (with_reducible try refine Lib.hid ?_); (repeat (with_reducible first | assumption | (apply Blk.new' <;> (simp; done)) | apply Blk.drew | apply Blk.drewN | apply Blk.alloc | apply Blk.set | apply Blk.setOther)) <;> (try simp [length_fillTo, length_turnTo]) <;> (try omega)) (by simp) rfl ⟨?_, by (with_reducible try refine Lib.hid ?_); (repeat (with_reducible first | assumption | exact Below.refl _ _ | apply Below.drew | apply Below.drewN' | apply Below.setCell | apply Below.alloc)) <;> (try simp [length_fillTo, length_turnTo]) <;> (try omega)⟩
    rw [HM.out, if_pos HZ.out]; simp
  · have hz' : ((o.e >>> 26).toNat : Int) ≠ 0 := by
      intro h
      exact hz (UInt64.toNat_inj.1 (Int.natCast_eq_zero.1 h))
    generalize ((o.e >>> 26).toNat : Int) = v at *
    have r2 := mask_u64 o.e
    have HZ := Lib.hid hz; clear hz
    go_wp2
    refine ret5 (fn := Try.f19) rfl rfl (by (with_reducible try refine Lib.hid ?_); (repeat (with_reducible first | assumption | (apply Blk.new' <;> (simp; done)) | apply Blk.drew | apply Blk.drewN | apply Blk.alloc | apply Blk.set | apply Blk.setOther)) <;> (try simp [length_fillTo, length_turnTo]) <;> (try omega)) (by simp) rfl ⟨?_, by (with_reducible try refine Lib.hid ?_); (repeat (with_reducible first | assumption | exact Below.refl _ _ | apply Below.drew | apply Below.drewN' | apply Below.setCell | apply Below.alloc)) <;> (try simp [length_fillTo, length_turnTo]) <;> (try omega)⟩
    rw [HM.out, if_neg HZ.out]; simp
end Go.Proofs.Ytlheepcojeaeaaa
