/-
  Proved: the given statement AuditMoreSaid: the law AuditMore returns true for every input, and its arguments read behind it as before. No condition.
-/
import Derived.Test.YthdkgcmoagookaaChecked
import Derived.Test.YthdkgcmoagookaaRows
import Derived.Test.YthdkgcmoagookaaWs
import Derived.Test.YthdkgcmoagookaaWr
import Derived.WalkKit
import Derived.ProofKit
import Derived.OpenShut
import Derived.ShutString
import Derived.ChangeOld
import Derived.Below
namespace Go.Proofs.Ythdkgcmoagookaa.auditMore
open Go.ChangeShapes Go.WideShapes Go.ChangeAt Go.RowKit
open Go.ChangeMaps (open_string shut_string)
set_option linter.unusedVariables false

theorem own : ownKnob Try.prog.godebug = none := by kernel_rfl
theorem laidOut : laidOutB Try.prog = true := by kernel_rfl

set_option maxRecDepth 100000 in
set_option maxHeartbeats 4000000 in
theorem lifted (os : Os) (started : os.Started) (H : Type) (enc : TypeId × Value → H) :
    ReturnsInHanded {} Try.checked os 3 .any (Rows.auditMoreSpec.pre6 enc Try.prog Try.f3 Rows.auditMoreRow.domain false) (Rows.auditMoreSpec.post enc Try.prog Try.f3 false true false false) := by
  refine returnsInHanded_of_change (C := Try.checked) own started (by kernel_rfl) Try.func3
    (ChangeSpec.witness6 (enc := enc) (C := Try.checked) false ⟨#[], #[.slice none 0 0, .slice none 0 0, .slice none 0 0], []⟩ 8 (by kernel_rfl) (by kernel_rfl) (by kernel_rfl) (by kernel_rfl)) ?_
  intro W base args ds gs before hval0 hW hcnd _
  have hval : ∀ (j : Nat) t v, Try.f3.params[j]? = some t → args[j]? = some v → Value.okWide Try.prog W .any base t v := hval0
  have hW' := hW
  obtain ⟨p, q, hA0, hV, rfl, hfz, hnd⟩ := hW
  have hA : DataW.TrodAll enc Try.prog W 0 (fun _ => true) true Try.f3.params.toList args.toList ds p := hA0
  rw [Try.params3] at hA hval
  obtain ⟨v0, vs0, d0, ds0, p0, q0, hargs, rfl, rfl, h0, r0⟩ := trodAll_cons hA
  obtain ⟨v1, vs1, d1, ds1, p1, q1, rfl, rfl, rfl, h1, r1⟩ := trodAll_cons r0
  obtain ⟨v2, vs2, d2, ds2, p2, q2, rfl, rfl, rfl, h2, r2⟩ := trodAll_cons r1
  obtain ⟨rfl, rfl, rfl⟩ := trodAll_nil r2
  obtain rfl : args = #[v0, v1, v2] := by cases args; simp_all
  obtain ⟨rfl, rfl⟩ := trodVars_none hV
  have k0 := h0
  have lt0 : ∀ x ∈ p0, x.block < W.heap.size := by obtain ⟨m, hm⟩ := k0; exact DataW.trod_lt m _ _ _ hm
  obtain ⟨oa0, n0, c0, rfl⟩ := okWide_slice Try.underlying22 (hval 0 22 v0 rfl rfl)
  have s0 : LeafOk Try.prog W (.sl 41) (.slice oa0 n0 c0) := by
    obtain ⟨x, r, hx, hxo, hr⟩ := fits_cons (fits_of (w := W) 2 22 [.sl 41] _ (by kernel_rfl) (readable_of h0))
    simp [Value.cells] at hx
    rw [hx.1]; exact hxo
  obtain ⟨xa0, xn0, xc0, l0, hv0, hl0, hm0, R0, ok0, nil0⟩ := rows_of (P := Try.prog) (w := W) (e := 41) (by rw [show Try.prog.cellsOf 41 = 22 from by kernel_rfl]; omega) (fun cs h => nd_of (fits_of 8 _ _ _ (show leaves Try.prog 8 41 = some [.s, .i .u64, .i .i64, .i .i64, .i .i64, .s, .i .i64, .s, .i .i64, .s, .b, .sl 50, .sl 50, .sl 63, .sl 77, .sl 83, .sl 65, .sl 67, .i .i64, .i .i64, .sl 27, .sl 70] from by kernel_rfl) h)) s0
  obtain ⟨rfl, rfl, rfl⟩ : oa0 = xa0 ∧ n0 = xn0 ∧ c0 = xc0 := by simpa using hv0
  have k1 := h1
  have lt1 : ∀ x ∈ p1, x.block < W.heap.size := by obtain ⟨m, hm⟩ := k1; exact DataW.trod_lt m _ _ _ hm
  obtain ⟨oa1, n1, c1, rfl⟩ := okWide_slice Try.underlying23 (hval 1 23 v1 rfl rfl)
  have s1 : LeafOk Try.prog W (.sl 29) (.slice oa1 n1 c1) := by
    obtain ⟨x, r, hx, hxo, hr⟩ := fits_cons (fits_of (w := W) 2 23 [.sl 29] _ (by kernel_rfl) (readable_of h1))
    simp [Value.cells] at hx
    rw [hx.1]; exact hxo
  obtain ⟨xa1, xn1, xc1, l1, hv1, hl1, hm1, R1, ok1, nil1⟩ := rows_of (P := Try.prog) (w := W) (e := 29) (by rw [show Try.prog.cellsOf 29 = 6 from by kernel_rfl]; omega) (fun cs h => en_of (fits_of 8 _ _ _ (show leaves Try.prog 8 29 = some [.s, .i .u64, .i .i64, .i .i64, .i .i64, .s] from by kernel_rfl) h)) s1
  obtain ⟨rfl, rfl, rfl⟩ : oa1 = xa1 ∧ n1 = xn1 ∧ c1 = xc1 := by simpa using hv1
  have k2 := h2
  have lt2 : ∀ x ∈ p2, x.block < W.heap.size := by obtain ⟨m, hm⟩ := k2; exact DataW.trod_lt m _ _ _ hm
  obtain ⟨oa2, n2, c2, rfl⟩ := okWide_slice Try.underlying23 (hval 2 23 v2 rfl rfl)
  have s2 : LeafOk Try.prog W (.sl 29) (.slice oa2 n2 c2) := by
    obtain ⟨x, r, hx, hxo, hr⟩ := fits_cons (fits_of (w := W) 2 23 [.sl 29] _ (by kernel_rfl) (readable_of h2))
    simp [Value.cells] at hx
    rw [hx.1]; exact hxo
  obtain ⟨xa2, xn2, xc2, l2, hv2, hl2, hm2, R2, ok2, nil2⟩ := rows_of (P := Try.prog) (w := W) (e := 29) (by rw [show Try.prog.cellsOf 29 = 6 from by kernel_rfl]; omega) (fun cs h => en_of (fits_of 8 _ _ _ (show leaves Try.prog 8 29 = some [.s, .i .u64, .i .i64, .i .i64, .i .i64, .s] from by kernel_rfl) h)) s2
  obtain ⟨rfl, rfl, rfl⟩ : oa2 = xa2 ∧ n2 = xn2 ∧ c2 = xc2 := by simpa using hv2
  clear hA0 hval0
  refine (auditMore3 l0 l1 l2 W oa0 n0 c0 oa1 n1 c1 oa2 n2 c2 ⟨⟨R0, hl0, hm0⟩, fun p hp => (ok0 p hp).1⟩ (fun p hp => (ok0 p hp).2) ⟨R1, hl1, hm1⟩ ⟨R2, hl2, hm2⟩).mono fun e W' ⟨he, bel⟩ => ?_
  subst he
  exact ⟨_, rfl, _, _, _, [], _, [], hW', trodAll_mk1 (shut_bool Try.underlying4 _), (trodAll_cons_mk (Below.trod laidOut (by kernel_rfl) (of_decide_eq_true (by kernel_rfl)) k0 bel lt0) (trodAll_cons_mk (Below.trod laidOut (by kernel_rfl) (of_decide_eq_true (by kernel_rfl)) k1 bel lt1) (trodAll_cons_mk (Below.trod laidOut (by kernel_rfl) (of_decide_eq_true (by kernel_rfl)) k2 bel lt2) trodAll_mk0))), rfl, bel.frame _, fun h => by cases h⟩

theorem over : Rows.auditMoreRow.holds Try.pinned (OpenSpec.ofChange Rows.auditMoreSpec) :=
  OpenClaim.holds_of_wide 3 Try.f3 rfl rfl rfl rfl rfl rfl rfl ⟨rfl, rfl, rfl, rfl, rfl⟩ rfl rfl rfl rfl rfl (by kernel_rfl) Try.func3 (by kernel_rfl)
    (of_decide_eq_true (by kernel_rfl)) (by unfold Func.isWrapper; first | (rw [if_pos (by decide +kernel)]; kernel_rfl) | (rw [if_neg (by decide +kernel)]; exact ⟨rfl, rfl⟩))
    (fun os started H enc _ => lifted os started H enc)

theorem proved : Rows.AuditMoreSaid := over
end Go.Proofs.Ythdkgcmoagookaa.auditMore
