/-
  Proved: the given statement TallyAllUptoSaid: the law TallyAll returns true for every input of bulk at most 1048576, and its arguments read behind it as before.
-/
import Derived.Test.YthobmcpilfalgaaChecked
import Derived.Test.YthobmcpilfalgaaRows
import Derived.Test.YthobmcpilfalgaaWn
import Derived.Test.YthobmcpilfalgaaWu
import Derived.WalkKit
import Derived.ProofKit
import Derived.OpenShut
import Derived.ShutString
import Derived.ChangeOld
import Derived.Below
import Derived.SizedLaws
import Derived.Deep.CondSized
import Derived.JoinedCond
namespace Go.Proofs.Ythobmcpilfalgaa.tallyAll
open Go.ChangeShapes Go.WideShapes Go.ChangeAt Go.RowKit
open Go.ChangeMaps (open_string shut_string)
set_option linter.unusedVariables false

theorem own : ownKnob Try.prog.godebug = none := by kernel_rfl
theorem laidOut : laidOutB Try.prog = true := by kernel_rfl

set_option maxRecDepth 100000 in
set_option maxHeartbeats 4000000 in
theorem lifted (os : Os) (started : os.Started) (H : Type) (enc : TypeId × Value → H) (F0 : Stop.Interp) :
    ReturnsInHanded {} Try.checked os 5 .any ((Rows.OpenSpec.upto Rows.tallyAllSpec).pre6 enc Try.prog Try.f5 Rows.tallyAllUptoRow.domain false) (((Rows.OpenSpec.upto Rows.tallyAllSpec).at F0).post enc Try.prog Try.f5 false true false false) := by
  refine returnsInHanded_of_cond_sized (C := Try.checked) (s := Rows.OpenSpec.upto Rows.tallyAllSpec) (k := Rows.uptoSmall) rfl own started (by kernel_rfl) Try.func5
    (OpenSpec.witness (enc := enc) (C := Try.checked) (s := Rows.OpenSpec.upto Rows.tallyAllSpec) (k := Rows.uptoSmall) rfl false ⟨#[], #[.slice none 0 0, .slice none 0 0], []⟩ 8 (by kernel_rfl) (by kernel_rfl) (by kernel_rfl)
      (x := ([.nil, .nil], [], [])) (by kernel_rfl) (by kernel_rfl) (by kernel_rfl)) ?_
  intro W base args ds gs before hval0 hW hcnd hk0 hsz0 _
  have hbulk : Rows.uptoBulkAll (ds ++ gs) ≤ 1048576 := of_decide_eq_true hk0
  clear hk0
  have hsz : (DataW.weightsEach Try.prog (Try.f5.params.toList ++ Rows.tallyAllSpec.plain.varTypes Try.prog) (ds ++ gs)).all (· ≤ reachBytes) = true := hsz0
  clear hsz0
  have hval : ∀ (j : Nat) t v, Try.f5.params[j]? = some t → args[j]? = some v → Value.okWide Try.prog W .any base t v := hval0
  have hW' := hW
  obtain ⟨p, q, hA0, hV, rfl, hfz, hnd⟩ := hW
  have hA : DataW.TrodAll enc Try.prog W 0 (fun _ => true) true Try.f5.params.toList args.toList ds p := hA0
  rw [Try.params5] at hA hval hsz
  obtain ⟨v0, vs0, d0, ds0, p0, q0, hargs, rfl, rfl, h0, r0⟩ := trodAll_cons hA
  obtain ⟨v1, vs1, d1, ds1, p1, q1, rfl, rfl, rfl, h1, r1⟩ := trodAll_cons r0
  obtain ⟨rfl, rfl, rfl⟩ := trodAll_nil r1
  obtain rfl : args = #[v0, v1] := by cases args; simp_all
  obtain ⟨rfl, rfl⟩ := trodVars_none hV
  have k0 := h0
  have lt0 : ∀ x ∈ p0, x.block < W.heap.size := by obtain ⟨m, hm⟩ := k0; exact DataW.trod_lt m _ _ _ hm
  obtain ⟨oa0, n0, c0, rfl⟩ := okWide_slice Try.underlying22 (hval 0 22 v0 rfl rfl)
  have s0 : Upto.LeafOk Try.prog W (.sl 51) (.slice oa0 n0 c0) := by
    obtain ⟨x, r, hx, hxo, hr⟩ := Upto.fits_cons (Upto.fits_of (w := W) 2 22 [.sl 51] _ (by kernel_rfl) (Upto.readable_of h0 (Upto.sized_at hsz (j := 0) (t := 22) rfl rfl) (Upto.bulk_at hbulk 0 rfl)))
    simp [Value.cells] at hx
    rw [hx.1]; exact hxo
  obtain ⟨xa0, xn0, xc0, l0, hv0, hl0, hm0, hr0, hln0, R0, ok0, nil0⟩ := Upto.rows_of (P := Try.prog) (w := W) (e := 51) (by rw [show Try.prog.cellsOf 51 = 3 from by kernel_rfl]; omega) (fun cs h => Upto.pk_of (Upto.fits_of 6 _ _ _ (show Upto.leaves Try.prog 6 51 = some [.s, .s, .sl 5] from by kernel_rfl) h)) s0
  obtain ⟨rfl, rfl, rfl⟩ : oa0 = xa0 ∧ n0 = xn0 ∧ c0 = xc0 := by simpa using hv0
  have k1 := h1
  have lt1 : ∀ x ∈ p1, x.block < W.heap.size := by obtain ⟨m, hm⟩ := k1; exact DataW.trod_lt m _ _ _ hm
  obtain ⟨oa1, n1, c1, rfl⟩ := okWide_slice Try.underlying22 (hval 1 22 v1 rfl rfl)
  have s1 : Upto.LeafOk Try.prog W (.sl 51) (.slice oa1 n1 c1) := by
    obtain ⟨x, r, hx, hxo, hr⟩ := Upto.fits_cons (Upto.fits_of (w := W) 2 22 [.sl 51] _ (by kernel_rfl) (Upto.readable_of h1 (Upto.sized_at hsz (j := 1) (t := 22) rfl rfl) (Upto.bulk_at hbulk 1 rfl)))
    simp [Value.cells] at hx
    rw [hx.1]; exact hxo
  obtain ⟨xa1, xn1, xc1, l1, hv1, hl1, hm1, hr1, hln1, R1, ok1, nil1⟩ := Upto.rows_of (P := Try.prog) (w := W) (e := 51) (by rw [show Try.prog.cellsOf 51 = 3 from by kernel_rfl]; omega) (fun cs h => Upto.pk_of (Upto.fits_of 6 _ _ _ (show Upto.leaves Try.prog 6 51 = some [.s, .s, .sl 5] from by kernel_rfl) h)) s1
  obtain ⟨rfl, rfl, rfl⟩ : oa1 = xa1 ∧ n1 = xn1 ∧ c1 = xc1 := by simpa using hv1
  clear hA0 hval0
  refine (tallyAll5 l0 l1 W oa0 n0 c0 oa1 n1 c1 ⟨R0, hl0, hm0, fun p hp => (ok0 p hp).1⟩ ⟨R1, hl1, hm1, fun p hp => (ok1 p hp).1⟩ fun p hp => (ok0 p hp).2).mono fun e W' ⟨he, bel⟩ => ?_
  subst he
  exact ⟨_, rfl, _, _, _, [], _, [], hW', trodAll_mk1 (shut_bool Try.underlying4 _), (trodAll_cons_mk (Below.trod laidOut (by kernel_rfl) (of_decide_eq_true (by kernel_rfl)) k0 bel lt0) (trodAll_cons_mk (Below.trod laidOut (by kernel_rfl) (of_decide_eq_true (by kernel_rfl)) k1 bel lt1) trodAll_mk0)), rfl, bel.frame _, fun h => by cases h⟩

theorem over : Rows.tallyAllUptoRow.holds Try.pinned (Rows.OpenSpec.upto Rows.tallyAllSpec) :=
  OpenClaim.holds_of_cond 5 Try.f5 rfl rfl rfl rfl rfl rfl rfl ⟨rfl, rfl, rfl, rfl, rfl⟩ rfl rfl rfl rfl rfl (by kernel_rfl) Try.func5 (by kernel_rfl)
    (of_decide_eq_true (by kernel_rfl)) (by unfold Func.isWrapper; first | (rw [if_pos (by decide +kernel)]; kernel_rfl) | (rw [if_neg (by decide +kernel)]; exact ⟨rfl, rfl⟩))
    (fun os started H enc _ F0 => lifted os started H enc F0)

theorem proved : Rows.TallyAllUptoSaid := over
end Go.Proofs.Ythobmcpilfalgaa.tallyAll
