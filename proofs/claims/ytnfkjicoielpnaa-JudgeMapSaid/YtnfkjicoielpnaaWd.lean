/-
  Walk: whether a result fits, by the document.
-/
import Derived.Test.YtnfkjicoielpnaaWc
namespace Go.Proofs.Ytnfkjicoielpnaa
open Go.RowKit
set_option maxHeartbeats 1000000
set_option maxRecDepth 20000
set_option linter.unusedVariables false
set_option linter.unusedSimpArgs false

theorem refFits18 (k : ByteArray) (s : St) (r : Res) (w : World) : Calls Try.prog 18 #[.agg (scells (k, s)).toArray, .agg r.cells.toArray] w fun e w' => e = .returned (.bool (fits s r)) ∧ Below w.heap.size w w' := by
  obtain ⟨sval, sver, sis, sun⟩ := s
  obtain ⟨job, kind, ver, key, val, has, gone, err⟩ := r
  simp only [scells, Res.cells]
  by_cases e0 : err = 0
  case neg =>
    go_enter Try.func18, Try.ntmps18
    go_wp2
    refine bodyPost_ret (v := .bool true) (by simp [results, Try.results18, go_sem]) rfl ⟨by simp [fits, e0], by (with_reducible try refine Lib.hid ?_); (repeat (with_reducible first | assumption | exact Below.refl _ _ | apply Below.drew | apply Below.drewN' | apply Below.setCell | apply Below.alloc)) <;> (try simp [length_fillTo, length_turnTo]) <;> (try omega)⟩
  subst e0
  by_cases c1 : kind < 1
  · have h : fits ⟨sval, sver, sis, sun⟩ ⟨job, kind, ver, key, val, has, gone, 0⟩ = true := by simp only [fits]; rw [if_neg (by simp), if_neg (by omega), if_neg (by omega)]
    rw [h]; clear h
    go_enter Try.func18, Try.ntmps18
    go_wp2
    refine bodyPost_ret (v := .bool true) (by simp [results, Try.results18, go_sem]) rfl ⟨rfl, by (with_reducible try refine Lib.hid ?_); (repeat (with_reducible first | assumption | exact Below.refl _ _ | apply Below.drew | apply Below.drewN' | apply Below.setCell | apply Below.alloc)) <;> (try simp [length_fillTo, length_turnTo]) <;> (try omega)⟩
  by_cases c2 : 3 < kind
  · have h : fits ⟨sval, sver, sis, sun⟩ ⟨job, kind, ver, key, val, has, gone, 0⟩ = true := by simp only [fits]; rw [if_neg (by simp), if_neg (by omega), if_neg (by omega)]
    rw [h]; clear h
    go_enter Try.func18, Try.ntmps18
    go_wp2
    refine bodyPost_ret (v := .bool true) (by simp [results, Try.results18, go_sem]) rfl ⟨rfl, by (with_reducible try refine Lib.hid ?_); (repeat (with_reducible first | assumption | exact Below.refl _ _ | apply Below.drew | apply Below.drewN' | apply Below.setCell | apply Below.alloc)) <;> (try simp [length_fillTo, length_turnTo]) <;> (try omega)⟩
  have hk : kind = 1 ∨ kind = 2 ∨ kind = 3 := by omega
  clear c1 c2
  rcases hk with rfl | rfl | rfl
  · go_enter Try.func18, Try.ntmps18
    go_wp2
    refine bodyPost_ret (v := .bool (decide (sver < ver))) (by simp [results, Try.results18, go_sem]) rfl ⟨by simp [fits], by (with_reducible try refine Lib.hid ?_); (repeat (with_reducible first | assumption | exact Below.refl _ _ | apply Below.drew | apply Below.drewN' | apply Below.setCell | apply Below.alloc)) <;> (try simp [length_fillTo, length_turnTo]) <;> (try omega)⟩
  · go_enter Try.func18, Try.ntmps18
    go_wp2
    refine bodyPost_ret (v := .bool (decide (sver < ver))) (by simp [results, Try.results18, go_sem]) rfl ⟨by simp [fits], by (with_reducible try refine Lib.hid ?_); (repeat (with_reducible first | assumption | exact Below.refl _ _ | apply Below.drew | apply Below.drewN' | apply Below.setCell | apply Below.alloc)) <;> (try simp [length_fillTo, length_turnTo]) <;> (try omega)⟩
  · cases sun
    case true =>
      go_enter Try.func18, Try.ntmps18
      go_wp2
      refine bodyPost_ret (v := .bool (decide (sver ≤ ver))) (by simp [results, Try.results18, go_sem]) rfl ⟨by simp [fits], by (with_reducible try refine Lib.hid ?_); (repeat (with_reducible first | assumption | exact Below.refl _ _ | apply Below.drew | apply Below.drewN' | apply Below.setCell | apply Below.alloc)) <;> (try simp [length_fillTo, length_turnTo]) <;> (try omega)⟩
    by_cases hv : ver = sver
    case neg =>
      go_enter Try.func18, Try.ntmps18
      go_wp2
      refine bodyPost_ret (v := .bool false) (by simp [results, Try.results18, go_sem]) rfl ⟨by simp [fits, got, seen, hv], by (with_reducible try refine Lib.hid ?_); (repeat (with_reducible first | assumption | exact Below.refl _ _ | apply Below.drew | apply Below.drewN' | apply Below.setCell | apply Below.alloc)) <;> (try simp [length_fillTo, length_turnTo]) <;> (try omega)⟩
    subst hv
    cases has <;> cases sis
    · go_enter Try.func18, Try.ntmps18
      go_wp2
      refine bodyPost_ret (v := .bool true) (by simp [results, Try.results18, go_sem]) rfl ⟨by simp [fits, got, seen], by (with_reducible try refine Lib.hid ?_); (repeat (with_reducible first | assumption | exact Below.refl _ _ | apply Below.drew | apply Below.drewN' | apply Below.setCell | apply Below.alloc)) <;> (try simp [length_fillTo, length_turnTo]) <;> (try omega)⟩
    · go_enter Try.func18, Try.ntmps18
      go_wp2
      refine bodyPost_ret (v := .bool false) (by simp [results, Try.results18, go_sem]) rfl ⟨by simp [fits, got, seen], by (with_reducible try refine Lib.hid ?_); (repeat (with_reducible first | assumption | exact Below.refl _ _ | apply Below.drew | apply Below.drewN' | apply Below.setCell | apply Below.alloc)) <;> (try simp [length_fillTo, length_turnTo]) <;> (try omega)⟩
    · go_enter Try.func18, Try.ntmps18
      go_wp2
      refine bodyPost_ret (v := .bool false) (by simp [results, Try.results18, go_sem]) rfl ⟨by simp [fits, got, seen], by (with_reducible try refine Lib.hid ?_); (repeat (with_reducible first | assumption | exact Below.refl _ _ | apply Below.drew | apply Below.drewN' | apply Below.setCell | apply Below.alloc)) <;> (try simp [length_fillTo, length_turnTo]) <;> (try omega)⟩
    · by_cases he : val = sval
      · subst he
        go_enter Try.func18, Try.ntmps18
        go_wp2
        refine bodyPost_ret (v := .bool true) (by simp [results, Try.results18, go_sem]) rfl ⟨by simp [fits, got, seen], by (with_reducible try refine Lib.hid ?_); (repeat (with_reducible first | assumption | exact Below.refl _ _ | apply Below.drew | apply Below.drewN' | apply Below.setCell | apply Below.alloc)) <;> (try simp [length_fillTo, length_turnTo]) <;> (try omega)⟩
      · have hne := strne he
        go_enter Try.func18, Try.ntmps18
        go_wp2
        refine bodyPost_ret (v := .bool false) (by simp [results, Try.results18, go_sem]) rfl ⟨by simp [fits, got, seen, he], by (with_reducible try refine Lib.hid ?_); (repeat (with_reducible first | assumption | exact Below.refl _ _ | apply Below.drew | apply Below.drewN' | apply Below.setCell | apply Below.alloc)) <;> (try simp [length_fillTo, length_turnTo]) <;> (try omega)⟩
end Go.Proofs.Ytnfkjicoielpnaa
