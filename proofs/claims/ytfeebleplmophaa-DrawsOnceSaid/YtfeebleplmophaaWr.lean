/-
  What an argument that is a deed, or a number, is.
-/
import Derived.Test.YtfeebleplmophaaOpen
import Derived.Test.YtfeebleplmophaaWk
namespace Go.Proofs.Ytfeebleplmophaa
open Go.RowKit
set_option linter.unusedVariables false
set_option linter.unusedSimpArgs false

theorem nat_of (n : Int) (h : (Lit.int .u64 n).wf = true) : ∃ m : Nat, n = (m : Int) ∧ m < 18446744073709551616 := by
  have hb : 0 ≤ n ∧ n ≤ 18446744073709551615 := by simpa [Lit.wf, IntKind.min, IntKind.max, IntKind.signed, IntKind.bits] using h
  exact ⟨n.toNat, by omega, by omega⟩
theorem dd_of {w : World} {cs : List Value} (h : Fits Try.prog w [.i .i64, .i .i64, .i .u64] cs) : ∃ d : Dd, cs = d.cells ∧ d.n < 18446744073709551616 := by
  obtain ⟨v0, r, rfl, h0, h⟩ := fits_cons h
  obtain ⟨v1, r, rfl, h1, h⟩ := fits_cons h
  obtain ⟨v2, r, rfl, h2, h⟩ := fits_cons h
  obtain rfl := fits_nil h
  obtain ⟨a, rfl, -⟩ := h0
  obtain ⟨b, rfl, -⟩ := h1
  obtain ⟨n, rfl, z⟩ := h2
  obtain ⟨m, rfl, hm⟩ := nat_of n z
  exact ⟨⟨a, b, m⟩, rfl, hm⟩
/-- a number -/
structure Nu where
  n : Nat
def Nu.cells (d : Nu) : List Value := [UV d.n]
theorem nu_of {w : World} {cs : List Value} (h : Fits Try.prog w [.i .u64] cs) : ∃ d : Nu, cs = d.cells ∧ d.n < 18446744073709551616 := by
  obtain ⟨v0, r, rfl, h0, h⟩ := fits_cons h
  obtain rfl := fits_nil h
  obtain ⟨n, rfl, z⟩ := h0
  obtain ⟨m, rfl, hm⟩ := nat_of n z
  exact ⟨⟨m⟩, rfl, hm⟩
end Go.Proofs.Ytfeebleplmophaa
