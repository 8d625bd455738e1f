/-
  Walks: whether a result fits, by the program and by the document.
-/
import Derived.Test.YtnfkjicoielpnaaWb
import Derived.Laws.StructEq
namespace Go.Proofs.Ytnfkjicoielpnaa
open Go.RowKit Go.Proofs.Ytnfkjicoielpnaa.Plan Go.Proofs.Ytnfkjicoielpnaa.Eager
set_option maxHeartbeats 1000000
set_option maxRecDepth 20000
set_option linter.unusedVariables false
set_option linter.unusedSimpArgs false

theorem strpeq (a b : ByteArray) : (a.toList = b.toList) ↔ a = b := by
  rw [ByteArray.toList_eq, ByteArray.toList_eq]
  constructor
  · intro e; cases a; cases b; simpa using e
  · rintro rfl; rfl
theorem eq33 (s t : St) (w : World) : (binOp .eql 33 (.agg s.cells.toArray) (.agg t.cells.toArray)).run Try.prog w = .ok (.bool (decide (s = t))) w := by
  obtain ⟨a1, a2, a3, a4⟩ := s
  obtain ⟨b1, b2, b3, b4⟩ := t
  have hS : Try.prog.underlying 33 = some (.struct (Try.prog.fieldsOf 33)) := by kernel_rfl
  have hp : Try.prog.stoodInHeld 33 = false := by kernel_rfl
  simp only [St.cells]
  rw [run_eql_struct, show (10000 : Nat) = 9999 + 1 from rfl, run_equalIn_agg w 9999 33 _ _ hS hp]
  simp only [Program.fieldsOf, Try.underlying33]
  go_simp
  by_cases h1 : a1 = b1 <;> by_cases h2 : a2 = b2 <;> by_cases h3 : a3 = b3 <;> by_cases h4 : a4 = b4 <;> simp [strpeq, h1, h2, h3, h4]

theorem fits17 (s : St) (r : Res) (w : World) : Calls Try.prog 17 #[.agg s.cells.toArray, .agg r.cells.toArray] w fun e w' => e = .returned (.bool (fits s r)) ∧ Below w.heap.size w w' := by
  obtain ⟨sval, sver, sis, sun⟩ := s
  obtain ⟨job, kind, ver, key, val, has, gone, err⟩ := r
  simp only [St.cells, Res.cells]
  by_cases e0 : err = 0
  case neg =>
    go_enter Try.func17, Try.ntmps17
    go_wp2
    refine bodyPost_ret (v := .bool true) (by simp [results, Try.results17, go_sem]) rfl ⟨by simp [fits, e0], by (with_reducible try refine Lib.hid ?_); (repeat (with_reducible first | assumption | exact Below.refl _ _ | apply Below.drew | apply Below.drewN' | apply Below.setCell | apply Below.alloc)) <;> (try simp [length_fillTo, length_turnTo]) <;> (try omega)⟩
  subst e0
  by_cases k1 : kind = 1
  · subst k1
    go_enter Try.func17, Try.ntmps17
    go_wp2
    refine bodyPost_ret (v := .bool (decide (sver < ver))) (by simp [results, Try.results17, go_sem]) rfl ⟨by simp [fits], by (with_reducible try refine Lib.hid ?_); (repeat (with_reducible first | assumption | exact Below.refl _ _ | apply Below.drew | apply Below.drewN' | apply Below.setCell | apply Below.alloc)) <;> (try simp [length_fillTo, length_turnTo]) <;> (try omega)⟩
  by_cases k2 : kind = 2
  · subst k2
    go_enter Try.func17, Try.ntmps17
    go_wp2
    refine bodyPost_ret (v := .bool (decide (sver < ver))) (by simp [results, Try.results17, go_sem]) rfl ⟨by simp [fits], by (with_reducible try refine Lib.hid ?_); (repeat (with_reducible first | assumption | exact Below.refl _ _ | apply Below.drew | apply Below.drewN' | apply Below.setCell | apply Below.alloc)) <;> (try simp [length_fillTo, length_turnTo]) <;> (try omega)⟩
  by_cases k3 : kind = 3
  · subst k3
    cases sun
    case true =>
      go_enter Try.func17, Try.ntmps17
      go_wp2
      refine bodyPost_ret (v := .bool (decide (sver ≤ ver))) (by simp [results, Try.results17, go_sem]) rfl ⟨by simp [fits], by (with_reducible try refine Lib.hid ?_); (repeat (with_reducible first | assumption | exact Below.refl _ _ | apply Below.drew | apply Below.drewN' | apply Below.setCell | apply Below.alloc)) <;> (try simp [length_fillTo, length_turnTo]) <;> (try omega)⟩
    case false =>
      have HB : Hid (Below w.heap.size w ((w.alloc (.cells #[.string sval, .int .i64 sver, .bool sis, .bool false] 33)).alloc (.cells #[.int .i64 job, .int .i64 3, .int .i64 ver, .string key, .string val, .bool has, .bool gone, .int .i64 0] 36))) := by (with_reducible try refine Lib.hid ?_); (repeat (with_reducible first | assumption | exact Below.refl _ _ | apply Below.drew | apply Below.drewN' | apply Below.setCell | apply Below.alloc)) <;> (try simp [length_fillTo, length_turnTo]) <;> (try omega)
      have HX : Hid (Blk ((w.alloc (.cells #[.string sval, .int .i64 sver, .bool sis, .bool false] 33)).alloc (.cells #[.int .i64 job, .int .i64 3, .int .i64 ver, .string key, .string val, .bool has, .bool gone, .int .i64 0] 36)) (w.heap.size + 1) [.int .i64 job, .int .i64 3, .int .i64 ver, .string key, .string val, .bool has, .bool gone, .int .i64 0]) := Blk.new' (by simp)
      have HY : Hid (Blk ((w.alloc (.cells #[.string sval, .int .i64 sver, .bool sis, .bool false] 33)).alloc (.cells #[.int .i64 job, .int .i64 3, .int .i64 ver, .string key, .string val, .bool has, .bool gone, .int .i64 0] 36)) w.heap.size [.string sval, .int .i64 sver, .bool sis, .bool false]) := Blk.alloc (Blk.new' rfl) _
      go_enter Try.func17, Try.ntmps17
      go_wp2
      refine wp_region_plan none [] [] (.take 0 (.take 2 (.one 1 (.one 3 (.take 4 (.take 5 .done)))))) (by kernel_rfl) (by kernel_rfl) (fun _ _ dd _ _ h => by cases dd <;> exact h) ?_
      intro W0 hW0
      have hX0 := HX.out.drew
      have hY0 := HY.out.drew
      have hbW0 := HB.out.drew
      rw [← hW0] at hX0 hY0 hbW0
      clear hW0
      (refine pl_take (d := 27) (v := ?_) rfl rfl rfl ?_ ?_; rotate_left; (focus ((intro w' hb0 hw'; have hc := hX0.later hw'; have c0 := hc.at' 0 (by simp); have c1 := hc.at' 1 (by simp); have c2 := hc.at' 2 (by simp); have c3 := hc.at' 3 (by simp); have c4 := hc.at' 4 (by simp); have c5 := hc.at' 5 (by simp); have c6 := hc.at' 6 (by simp); have c7 := hc.at' 7 (by simp); simp only [List.getElem_cons_succ, List.getElem_cons_zero] at c0 c1 c2 c3 c4 c5 c6 c7; go_simp) <;> with_reducible rfl)); simp only [Act.put, List.setIfInBounds_toArray, List.set_cons_zero, List.set_cons_succ])
      (refine pl_take (d := 29) (v := ?_) rfl rfl rfl ?_ ?_; rotate_left; (focus ((intro w' hb0 hw'; have hc := hY0.later hw'; have c0 := hc.at' 0 (by simp); have c1 := hc.at' 1 (by simp); have c2 := hc.at' 2 (by simp); have c3 := hc.at' 3 (by simp); simp only [List.getElem_cons_succ, List.getElem_cons_zero] at c0 c1 c2 c3; go_simp) <;> with_reducible rfl)); simp only [Act.put, List.setIfInBounds_toArray, List.set_cons_zero, List.set_cons_succ])
      refine pl_one rfl rfl (fun K hK => ?_)
      go_simp
      refine (got25 ⟨job, 3, ver, key, val, has, gone, 0⟩ W0).mono ?_
      rintro r W1 ⟨rfl, hbk⟩
      refine hK _ _ (hbk : Rel none W0 W1) ?_
      clear hK
      have hbW1 := below_step hbW0 hbk
      clear hbk
      refine pl_one rfl rfl (fun K hK => ?_)
      go_simp
      refine (seen26 ⟨sval, sver, sis, false⟩ W1).mono ?_
      rintro r W2 ⟨rfl, hbk⟩
      refine hK _ _ (hbk : Rel none W1 W2) ?_
      clear hK
      have hbW2 := below_step hbW1 hbk
      clear hbk
      refine pl_take (d := 31) (v := .bool (decide (got ⟨job, 3, ver, key, val, has, gone, 0⟩ = seen ⟨sval, sver, sis, false⟩))) rfl rfl rfl ?_ ?_
      · intro w' hb0 hw'
        simp only [got, seen, St.cells]
        generalize (if has = true then val else nos) = gv
        generalize (if sis = true then sval else nos) = sv
        go_simp
        by_cases h1 : gv = sv <;> by_cases h2 : ver = sver <;> by_cases h3 : has = sis <;> simp [strpeq, h1, h2, h3]
      simp only [Act.put, List.setIfInBounds_toArray, List.set_cons_zero, List.set_cons_succ]
      (refine pl_take (d := 4) (v := ?_) rfl rfl rfl ?_ ?_; rotate_left; (focus ((intro w' hb0 hw'; go_simp) <;> with_reducible rfl)); simp only [Act.put, List.setIfInBounds_toArray, List.set_cons_zero, List.set_cons_succ])
      refine pl_end ?_
      go_wp2
      refine bodyPost_ret (v := .bool (decide (got ⟨job, 3, ver, key, val, has, gone, 0⟩ = seen ⟨sval, sver, sis, false⟩))) (by simp [results, Try.results17, go_sem]) rfl ⟨by simp [fits], hbW2⟩
  · go_enter Try.func17, Try.ntmps17
    go_wp2
    refine bodyPost_ret (v := .bool true) (by simp [results, Try.results17, go_sem]) rfl ⟨by simp [fits, k1, k2, k3], by (with_reducible try refine Lib.hid ?_); (repeat (with_reducible first | assumption | exact Below.refl _ _ | apply Below.drew | apply Below.drewN' | apply Below.setCell | apply Below.alloc)) <;> (try simp [length_fillTo, length_turnTo]) <;> (try omega)⟩
end Go.Proofs.Ytnfkjicoielpnaa
