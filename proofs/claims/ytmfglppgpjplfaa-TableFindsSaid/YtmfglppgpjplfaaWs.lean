/-
  What an argument that is an entry is.
-/
import Derived.Test.YtmfglppgpjplfaaWr
namespace Go.Proofs.Ytmfglppgpjplfaa
open Go.RowKit
set_option linter.unusedVariables false
theorem en_of {w : World} {cs : List Value} (h : Fits Try.prog w [.s, .i .u64, .i .i64, .i .i64, .i .i64, .s] cs) : ∃ p : En, cs = p.cells ∧ True := by
  obtain ⟨v0, r, rfl, h0, h⟩ := fits_cons h
  obtain ⟨v1, r, rfl, h1, h⟩ := fits_cons h
  obtain ⟨v2, r, rfl, h2, h⟩ := fits_cons h
  obtain ⟨v3, r, rfl, h3, h⟩ := fits_cons h
  obtain ⟨v4, r, rfl, h4, h⟩ := fits_cons h
  obtain ⟨v5, r, rfl, h5, h⟩ := fits_cons h
  obtain rfl := fits_nil h
  obtain ⟨pn, rfl, z2⟩ := h0
  obtain ⟨n3, rfl, z3⟩ := h1
  obtain ⟨pi, rfl⟩ := nat_of n3 z3
  obtain ⟨pf, rfl, z4⟩ := h2
  obtain ⟨pt, rfl, z5⟩ := h3
  obtain ⟨px, rfl, z6⟩ := h4
  obtain ⟨pg, rfl, z7⟩ := h5
  exact ⟨⟨pn, pi, pf, pt, px, pg⟩, rfl, trivial⟩
end Go.Proofs.Ytmfglppgpjplfaa
