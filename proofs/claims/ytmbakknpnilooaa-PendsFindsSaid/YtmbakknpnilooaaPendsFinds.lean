/-
  Proved: the given statement PendsFindsSaid: the law PendsFinds returns true for every input, and its arguments read behind it as before. No condition.
-/
import Derived.Test.YtmbakknpnilooaaChecked
import Derived.Test.YtmbakknpnilooaaRows
import Derived.Test.YtmbakknpnilooaaWo
import Derived.Test.YtmbakknpnilooaaWr
import Derived.WalkKit
import Derived.ProofKit
import Derived.OpenShut
import Derived.ShutString
import Derived.ChangeOld
import Derived.Below
namespace Go.Proofs.Ytmbakknpnilooaa.pendsFinds
open Go.ChangeShapes Go.WideShapes Go.ChangeAt Go.RowKit
open Go.ChangeMaps (open_string shut_string)
set_option linter.unusedVariables false

theorem own : ownKnob Try.prog.godebug = none := by kernel_rfl
theorem laidOut : laidOutB Try.prog = true := by kernel_rfl

set_option maxRecDepth 100000 in
set_option maxHeartbeats 4000000 in
theorem lifted (os : Os) (started : os.Started) (H : Type) (enc : TypeId × Value → H) :
    ReturnsInHanded {} Try.checked os 5 .any (Rows.pendsFindsSpec.pre6 enc Try.prog Try.f5 Rows.pendsFindsRow.domain false) (Rows.pendsFindsSpec.post enc Try.prog Try.f5 false true false false) := by
  refine returnsInHanded_of_change (C := Try.checked) own started (by kernel_rfl) Try.func5
    (ChangeSpec.witness6 (enc := enc) (C := Try.checked) false ⟨#[], #[.slice none 0 0, .slice none 0 0, .int .i64 0, .int .u64 0, .agg #[.string ByteArray.empty, .int .u64 0, .int .i64 0, .int .i64 0, .int .i64 0, .string ByteArray.empty], .int .i64 0], []⟩ 8 (by kernel_rfl) (by kernel_rfl) (by kernel_rfl) (by kernel_rfl)) ?_
  intro W base args ds gs before hval0 hW hcnd _
  have hval : ∀ (j : Nat) t v, Try.f5.params[j]? = some t → args[j]? = some v → Value.okWide Try.prog W .any base t v := hval0
  have hW' := hW
  obtain ⟨p, q, hA0, hV, rfl, hfz, hnd⟩ := hW
  have hA : DataW.TrodAll enc Try.prog W 0 (fun _ => true) true Try.f5.params.toList args.toList ds p := hA0
  rw [Try.params5] at hA hval
  obtain ⟨v0, vs0, d0, ds0, p0, q0, hargs, rfl, rfl, h0, r0⟩ := trodAll_cons hA
  obtain ⟨v1, vs1, d1, ds1, p1, q1, rfl, rfl, rfl, h1, r1⟩ := trodAll_cons r0
  obtain ⟨v2, vs2, d2, ds2, p2, q2, rfl, rfl, rfl, h2, r2⟩ := trodAll_cons r1
  obtain ⟨v3, vs3, d3, ds3, p3, q3, rfl, rfl, rfl, h3, r3⟩ := trodAll_cons r2
  obtain ⟨v4, vs4, d4, ds4, p4, q4, rfl, rfl, rfl, h4, r4⟩ := trodAll_cons r3
  obtain ⟨v5, vs5, d5, ds5, p5, q5, rfl, rfl, rfl, h5, r5⟩ := trodAll_cons r4
  obtain ⟨rfl, rfl, rfl⟩ := trodAll_nil r5
  obtain rfl : args = #[v0, v1, v2, v3, v4, v5] := by cases args; simp_all
  obtain ⟨rfl, rfl⟩ := trodVars_none hV
  have k0 := h0
  have lt0 : ∀ x ∈ p0, x.block < W.heap.size := by obtain ⟨m, hm⟩ := k0; exact DataW.trod_lt m _ _ _ hm
  obtain ⟨oa0, n0, c0, rfl⟩ := okWide_slice Try.underlying22 (hval 0 22 v0 rfl rfl)
  have s0 : LeafOk Try.prog W (.sl 32) (.slice oa0 n0 c0) := by
    obtain ⟨x, r, hx, hxo, hr⟩ := fits_cons (fits_of (w := W) 2 22 [.sl 32] _ (by kernel_rfl) (readable_of h0))
    simp [Value.cells] at hx
    rw [hx.1]; exact hxo
  obtain ⟨xa0, xn0, xc0, l0, hv0, hl0, hm0, R0, ok0, nil0⟩ := rows_of (P := Try.prog) (w := W) (e := 32) (by rw [show Try.prog.cellsOf 32 = 23 from by kernel_rfl]; omega) (fun cs h => pd_of (fits_of 8 _ _ _ (show leaves Try.prog 8 32 = some [.i .i64, .i .i64, .i .i64, .i .i64, .i .i64, .i .u64, .s, .i .u64, .i .i64, .i .i64, .i .i64, .s, .i .i64, .i .i64, .i .i64, .i .i64, .i .u64, .b, .b, .s, .s, .sl 25, .sl 68] from by kernel_rfl) h)) s0
  obtain ⟨rfl, rfl, rfl⟩ : oa0 = xa0 ∧ n0 = xn0 ∧ c0 = xc0 := by simpa using hv0
  have k1 := h1
  have lt1 : ∀ x ∈ p1, x.block < W.heap.size := by obtain ⟨m, hm⟩ := k1; exact DataW.trod_lt m _ _ _ hm
  obtain ⟨oa1, n1, c1, rfl⟩ := okWide_slice Try.underlying22 (hval 1 22 v1 rfl rfl)
  have s1 : LeafOk Try.prog W (.sl 32) (.slice oa1 n1 c1) := by
    obtain ⟨x, r, hx, hxo, hr⟩ := fits_cons (fits_of (w := W) 2 22 [.sl 32] _ (by kernel_rfl) (readable_of h1))
    simp [Value.cells] at hx
    rw [hx.1]; exact hxo
  obtain ⟨xa1, xn1, xc1, l1, hv1, hl1, hm1, R1, ok1, nil1⟩ := rows_of (P := Try.prog) (w := W) (e := 32) (by rw [show Try.prog.cellsOf 32 = 23 from by kernel_rfl]; omega) (fun cs h => pd_of (fits_of 8 _ _ _ (show leaves Try.prog 8 32 = some [.i .i64, .i .i64, .i .i64, .i .i64, .i .i64, .i .u64, .s, .i .u64, .i .i64, .i .i64, .i .i64, .s, .i .i64, .i .i64, .i .i64, .i .i64, .i .u64, .b, .b, .s, .s, .sl 25, .sl 68] from by kernel_rfl) h)) s1
  obtain ⟨rfl, rfl, rfl⟩ : oa1 = xa1 ∧ n1 = xn1 ∧ c1 = xc1 := by simpa using hv1
  have k2 := h2
  have lt2 : ∀ x ∈ p2, x.block < W.heap.size := by obtain ⟨m, hm⟩ := k2; exact DataW.trod_lt m _ _ _ hm
  obtain ⟨a2, rfl, -, -, wf2⟩ := open_int Try.underlying3 (hval 2 3 v2 rfl rfl) h2
  have b2 : -9223372036854775808 ≤ a2 ∧ a2 ≤ 9223372036854775807 := by
    simpa [Lit.wf, IntKind.min, IntKind.max, IntKind.signed, IntKind.bits] using wf2
  have k3 := h3
  have lt3 : ∀ x ∈ p3, x.block < W.heap.size := by obtain ⟨m, hm⟩ := k3; exact DataW.trod_lt m _ _ _ hm
  obtain ⟨n3, rfl, -, -, wf3⟩ := open_int Try.underlying23 (hval 3 23 v3 rfl rfl) h3
  obtain ⟨a3, hx3⟩ := leaf_u64 (P := Try.prog) (w := W) ⟨n3, rfl, wf3⟩
  obtain rfl : n3 = (a3.toNat : Int) := by simpa using hx3
  have k4 := h4
  have lt4 : ∀ x ∈ p4, x.block < W.heap.size := by obtain ⟨m, hm⟩ := k4; exact DataW.trod_lt m _ _ _ hm
  obtain ⟨cs4, rfl, -⟩ := okWide_struct Try.underlying25 (hval 4 25 v4 rfl rfl)
  have L4 : leaves Try.prog 6 25 = some [.s, .i .u64, .i .i64, .i .i64, .i .i64, .s] := by kernel_rfl
  obtain ⟨a4, ha4, ok4⟩ := en_of (fits_of _ _ _ _ L4 (readable_of h4))
  obtain rfl : cs4 = a4.cells.toArray := by apply Array.toList_inj.1; simpa [Value.cells] using ha4
  have k5 := h5
  have lt5 : ∀ x ∈ p5, x.block < W.heap.size := by obtain ⟨m, hm⟩ := k5; exact DataW.trod_lt m _ _ _ hm
  obtain ⟨a5, rfl, -, -, wf5⟩ := open_int Try.underlying3 (hval 5 3 v5 rfl rfl) h5
  have b5 : -9223372036854775808 ≤ a5 ∧ a5 ≤ 9223372036854775807 := by
    simpa [Lit.wf, IntKind.min, IntKind.max, IntKind.signed, IntKind.bits] using wf5
  clear hA0 hval0
  refine (pendsFinds5 l0 l1 a2 a3.toNat a4 a5 W oa0 n0 c0 oa1 n1 c1 ⟨⟨R0, hl0, hm0⟩, ok0⟩ ⟨⟨R1, hl1, hm1⟩, ok1⟩).mono fun e W' ⟨he, bel⟩ => ?_
  subst he
  exact ⟨_, rfl, _, _, _, [], _, [], hW', trodAll_mk1 (shut_bool Try.underlying4 _), (trodAll_cons_mk (Below.trod laidOut (by kernel_rfl) (of_decide_eq_true (by kernel_rfl)) k0 bel lt0) (trodAll_cons_mk (Below.trod laidOut (by kernel_rfl) (of_decide_eq_true (by kernel_rfl)) k1 bel lt1) (trodAll_cons_mk (Below.trod laidOut (by kernel_rfl) (of_decide_eq_true (by kernel_rfl)) k2 bel lt2) (trodAll_cons_mk (Below.trod laidOut (by kernel_rfl) (of_decide_eq_true (by kernel_rfl)) k3 bel lt3) (trodAll_cons_mk (Below.trod laidOut (by kernel_rfl) (of_decide_eq_true (by kernel_rfl)) k4 bel lt4) (trodAll_cons_mk (Below.trod laidOut (by kernel_rfl) (of_decide_eq_true (by kernel_rfl)) k5 bel lt5) trodAll_mk0)))))), rfl, bel.frame _, fun h => by cases h⟩

theorem over : Rows.pendsFindsRow.holds Try.pinned (OpenSpec.ofChange Rows.pendsFindsSpec) :=
  OpenClaim.holds_of_wide 5 Try.f5 rfl rfl rfl rfl rfl rfl rfl ⟨rfl, rfl, rfl, rfl, rfl⟩ rfl rfl rfl rfl rfl (by kernel_rfl) Try.func5 (by kernel_rfl)
    (of_decide_eq_true (by kernel_rfl)) (by unfold Func.isWrapper; first | (rw [if_pos (by decide +kernel)]; kernel_rfl) | (rw [if_neg (by decide +kernel)]; exact ⟨rfl, rfl⟩))
    (fun os started H enc _ => lifted os started H enc)

theorem proved : Rows.PendsFindsSaid := over
end Go.Proofs.Ytmbakknpnilooaa.pendsFinds
