/-
  Walks: what is known behind a result, by the program and by the document.
-/
import Derived.Test.YtnfkjicoielpnaaWa
namespace Go.Proofs.Ytnfkjicoielpnaa
open Go.RowKit
set_option maxHeartbeats 1000000
set_option maxRecDepth 20000
set_option linter.unusedVariables false
set_option linter.unusedSimpArgs false

theorem after19 (s : St) (r : Res) (w : World) : Calls Try.prog 19 #[.agg s.cells.toArray, .agg r.cells.toArray] w fun e w' => e = .returned (.agg (after s r).cells.toArray) ∧ Below w.heap.size w w' := by
  obtain ⟨sval, sver, sis, sun⟩ := s
  obtain ⟨job, kind, ver, key, val, has, gone, err⟩ := r
  simp only [St.cells, Res.cells]
  by_cases k1 : kind = 1
  · subst k1
    by_cases e0 : err = 0
    · subst e0
      go_enter Try.func19, Try.ntmps19
      go_wp2
      refine bodyPost_ret (v := .agg #[.string val, .int .i64 ver, .bool true, .bool false]) (by simp [results, Try.results19, go_sem]) rfl ⟨by simp [after], by (with_reducible try refine Lib.hid ?_); (repeat (with_reducible first | assumption | exact Below.refl _ _ | apply Below.drew | apply Below.drewN' | apply Below.setCell | apply Below.alloc)) <;> (try simp [length_fillTo, length_turnTo]) <;> (try omega)⟩
    · go_enter Try.func19, Try.ntmps19
      go_wp2
      refine bodyPost_ret (v := .agg #[.string sval, .int .i64 sver, .bool sis, .bool true]) (by simp [results, Try.results19, go_sem]) rfl ⟨by simp [after, e0], by (with_reducible try refine Lib.hid ?_); (repeat (with_reducible first | assumption | exact Below.refl _ _ | apply Below.drew | apply Below.drewN' | apply Below.setCell | apply Below.alloc)) <;> (try simp [length_fillTo, length_turnTo]) <;> (try omega)⟩
  by_cases k2 : kind = 2
  · subst k2
    by_cases e0 : err = 0
    · subst e0
      go_enter Try.func19, Try.ntmps19
      go_wp2
      refine bodyPost_ret (v := .agg #[.string nos, .int .i64 ver, .bool false, .bool false]) (by simp [results, Try.results19, go_sem, nos]) rfl ⟨by simp [after], by (with_reducible try refine Lib.hid ?_); (repeat (with_reducible first | assumption | exact Below.refl _ _ | apply Below.drew | apply Below.drewN' | apply Below.setCell | apply Below.alloc)) <;> (try simp [length_fillTo, length_turnTo]) <;> (try omega)⟩
    · go_enter Try.func19, Try.ntmps19
      go_wp2
      refine bodyPost_ret (v := .agg #[.string sval, .int .i64 sver, .bool sis, .bool true]) (by simp [results, Try.results19, go_sem]) rfl ⟨by simp [after, e0], by (with_reducible try refine Lib.hid ?_); (repeat (with_reducible first | assumption | exact Below.refl _ _ | apply Below.drew | apply Below.drewN' | apply Below.setCell | apply Below.alloc)) <;> (try simp [length_fillTo, length_turnTo]) <;> (try omega)⟩
  by_cases k3 : kind = 3
  · subst k3
    by_cases e0 : err = 0
    · subst e0
      have HB : Hid (Below w.heap.size w (((w.alloc (.cells #[.string sval, .int .i64 sver, .bool sis, .bool sun] 33)).alloc (.cells #[.int .i64 job, .int .i64 3, .int .i64 ver, .string key, .string val, .bool has, .bool gone, .int .i64 0] 36)).alloc (.cells #[.string ⟨#[]⟩, .int .i64 0, .bool false, .bool false] 33))) := by (with_reducible try refine Lib.hid ?_); (repeat (with_reducible first | assumption | exact Below.refl _ _ | apply Below.drew | apply Below.drewN' | apply Below.setCell | apply Below.alloc)) <;> (try simp [length_fillTo, length_turnTo]) <;> (try omega)
      have HX : Hid (Blk (((w.alloc (.cells #[.string sval, .int .i64 sver, .bool sis, .bool sun] 33)).alloc (.cells #[.int .i64 job, .int .i64 3, .int .i64 ver, .string key, .string val, .bool has, .bool gone, .int .i64 0] 36)).alloc (.cells #[.string ⟨#[]⟩, .int .i64 0, .bool false, .bool false] 33)) (w.heap.size + 1 + 1) [.string ⟨#[]⟩, .int .i64 0, .bool false, .bool false]) := Blk.new' (by simp)
      go_enter Try.func19, Try.ntmps19
      go_wp2_with (first | fail)
      refine (got25 ⟨job, 3, ver, key, val, has, gone, 0⟩ _).mono ?_
      rintro r w1 ⟨rfl, hb1⟩
      have hb2 := below_step HB.out hb1
      have hX2 := HX.out.later hb1
      have HX2 := Lib.hid hX2; have HB2 := Lib.hid hb2; clear hX2 hb2 hb1 HB HX
      simp only [St.cells]
      go_wp2_with (refine stop_store (ty := 33) rfl ?_)
      refine ⟨wpList_store_blk rfl rfl HX2.out (by rfl) (vs := (got ⟨job, 3, ver, key, val, has, gone, 0⟩).cells) (by rfl) row33 rfl (by simp [St.cells, Value.oneCell']) ?_⟩
      intro W5 hY5 hg5
      have hb5 := Below.grownB HB2.out hg5 (by omega) HB2.out.size
      have HY := Lib.hid hY5; have HB5 := Lib.hid hb5; clear hY5 hb5 hg5
      go_wp2
      exact ret_blk (b := w.heap.size + 1 + 1) rfl (by rfl) HY.out row33 rfl ⟨by simp [after, St.cells], HB5.out⟩
    · go_enter Try.func19, Try.ntmps19
      go_wp2
      refine bodyPost_ret (v := .agg #[.string sval, .int .i64 sver, .bool sis, .bool sun]) (by simp [results, Try.results19, go_sem]) rfl ⟨by simp [after, e0], by (with_reducible try refine Lib.hid ?_); (repeat (with_reducible first | assumption | exact Below.refl _ _ | apply Below.drew | apply Below.drewN' | apply Below.setCell | apply Below.alloc)) <;> (try simp [length_fillTo, length_turnTo]) <;> (try omega)⟩
  · go_enter Try.func19, Try.ntmps19
    go_wp2
    refine bodyPost_ret (v := .agg #[.string sval, .int .i64 sver, .bool sis, .bool sun]) (by simp [results, Try.results19, go_sem]) rfl ⟨by simp [after, k1, k2, k3], by (with_reducible try refine Lib.hid ?_); (repeat (with_reducible first | assumption | exact Below.refl _ _ | apply Below.drew | apply Below.drewN' | apply Below.setCell | apply Below.alloc)) <;> (try simp [length_fillTo, length_turnTo]) <;> (try omega)⟩

theorem refAfter16 (k : ByteArray) (s : St) (r : Res) (w : World) : Calls Try.prog 16 #[.agg (scells (k, s)).toArray, .agg r.cells.toArray] w fun e w' => e = .returned (.agg (scells (k, after s r)).toArray) ∧ Below w.heap.size w w' := by
  obtain ⟨sval, sver, sis, sun⟩ := s
  obtain ⟨job, kind, ver, key, val, has, gone, err⟩ := r
  simp only [scells, Res.cells]
  by_cases c0 : kind < 1 ∨ 3 < kind
  · have ha : after ⟨sval, sver, sis, sun⟩ ⟨job, kind, ver, key, val, has, gone, err⟩ = ⟨sval, sver, sis, sun⟩ := by
      simp only [after]; rw [if_neg (by omega), if_neg (by omega), if_neg (by omega)]
    rw [ha]; clear ha
    by_cases c1 : kind < 1
    · go_enter Try.func16, Try.ntmps16
      go_wp2
      refine bodyPost_ret (v := .agg #[.string k, .string sval, .int .i64 sver, .bool sis, .bool sun]) (by simp [results, Try.results16, go_sem]) rfl ⟨rfl, by (with_reducible try refine Lib.hid ?_); (repeat (with_reducible first | assumption | exact Below.refl _ _ | apply Below.drew | apply Below.drewN' | apply Below.setCell | apply Below.alloc)) <;> (try simp [length_fillTo, length_turnTo]) <;> (try omega)⟩
    · have c2 : 3 < kind := by omega
      go_enter Try.func16, Try.ntmps16
      go_wp2
      refine bodyPost_ret (v := .agg #[.string k, .string sval, .int .i64 sver, .bool sis, .bool sun]) (by simp [results, Try.results16, go_sem]) rfl ⟨rfl, by (with_reducible try refine Lib.hid ?_); (repeat (with_reducible first | assumption | exact Below.refl _ _ | apply Below.drew | apply Below.drewN' | apply Below.setCell | apply Below.alloc)) <;> (try simp [length_fillTo, length_turnTo]) <;> (try omega)⟩
  have hk : kind = 1 ∨ kind = 2 ∨ kind = 3 := by omega
  clear c0
  by_cases e0 : err = 0
  · subst e0
    rcases hk with rfl | rfl | rfl
    · go_enter Try.func16, Try.ntmps16
      go_wp2
      refine bodyPost_ret (v := .agg #[.string k, .string val, .int .i64 ver, .bool true, .bool false]) (by simp [results, Try.results16, go_sem]) rfl ⟨by simp [after], by (with_reducible try refine Lib.hid ?_); (repeat (with_reducible first | assumption | exact Below.refl _ _ | apply Below.drew | apply Below.drewN' | apply Below.setCell | apply Below.alloc)) <;> (try simp [length_fillTo, length_turnTo]) <;> (try omega)⟩
    · go_enter Try.func16, Try.ntmps16
      go_wp2
      refine bodyPost_ret (v := .agg #[.string k, .string nos, .int .i64 ver, .bool false, .bool false]) (by simp [results, Try.results16, go_sem, nos]) rfl ⟨by simp [after], by (with_reducible try refine Lib.hid ?_); (repeat (with_reducible first | assumption | exact Below.refl _ _ | apply Below.drew | apply Below.drewN' | apply Below.setCell | apply Below.alloc)) <;> (try simp [length_fillTo, length_turnTo]) <;> (try omega)⟩
    · cases has
      · go_enter Try.func16, Try.ntmps16
        go_wp2
        refine bodyPost_ret (v := .agg #[.string k, .string nos, .int .i64 ver, .bool false, .bool false]) (by simp [results, Try.results16, go_sem, nos]) rfl ⟨by simp [after, got], by (with_reducible try refine Lib.hid ?_); (repeat (with_reducible first | assumption | exact Below.refl _ _ | apply Below.drew | apply Below.drewN' | apply Below.setCell | apply Below.alloc)) <;> (try simp [length_fillTo, length_turnTo]) <;> (try omega)⟩
      · go_enter Try.func16, Try.ntmps16
        go_wp2
        refine bodyPost_ret (v := .agg #[.string k, .string val, .int .i64 ver, .bool true, .bool false]) (by simp [results, Try.results16, go_sem]) rfl ⟨by simp [after, got], by (with_reducible try refine Lib.hid ?_); (repeat (with_reducible first | assumption | exact Below.refl _ _ | apply Below.drew | apply Below.drewN' | apply Below.setCell | apply Below.alloc)) <;> (try simp [length_fillTo, length_turnTo]) <;> (try omega)⟩
  · rcases hk with rfl | rfl | rfl
    · go_enter Try.func16, Try.ntmps16
      go_wp2
      refine bodyPost_ret (v := .agg #[.string k, .string sval, .int .i64 sver, .bool sis, .bool true]) (by simp [results, Try.results16, go_sem]) rfl ⟨by simp [after, e0], by (with_reducible try refine Lib.hid ?_); (repeat (with_reducible first | assumption | exact Below.refl _ _ | apply Below.drew | apply Below.drewN' | apply Below.setCell | apply Below.alloc)) <;> (try simp [length_fillTo, length_turnTo]) <;> (try omega)⟩
    · go_enter Try.func16, Try.ntmps16
      go_wp2
      refine bodyPost_ret (v := .agg #[.string k, .string sval, .int .i64 sver, .bool sis, .bool true]) (by simp [results, Try.results16, go_sem]) rfl ⟨by simp [after, e0], by (with_reducible try refine Lib.hid ?_); (repeat (with_reducible first | assumption | exact Below.refl _ _ | apply Below.drew | apply Below.drewN' | apply Below.setCell | apply Below.alloc)) <;> (try simp [length_fillTo, length_turnTo]) <;> (try omega)⟩
    · go_enter Try.func16, Try.ntmps16
      go_wp2
      refine bodyPost_ret (v := .agg #[.string k, .string sval, .int .i64 sver, .bool sis, .bool sun]) (by simp [results, Try.results16, go_sem]) rfl ⟨by simp [after, e0], by (with_reducible try refine Lib.hid ?_); (repeat (with_reducible first | assumption | exact Below.refl _ _ | apply Below.drew | apply Below.drewN' | apply Below.setCell | apply Below.alloc)) <;> (try simp [length_fillTo, length_turnTo]) <;> (try omega)⟩
end Go.Proofs.Ytnfkjicoielpnaa
