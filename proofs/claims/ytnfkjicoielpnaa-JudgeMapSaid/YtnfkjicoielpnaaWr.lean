/-
  What an argument that is a result, or a state, is.
-/
import Derived.Test.YtnfkjicoielpnaaWa
namespace Go.Proofs.Ytnfkjicoielpnaa
open Go.RowKit
set_option linter.unusedVariables false

theorem res_of {w : World} {cs : List Value} (h : Fits Try.prog w [.i .i64, .i .i64, .i .i64, .s, .s, .b, .b, .i .i64] cs) : ∃ p : Res, cs = p.cells ∧ True := by
  obtain ⟨v0, r, rfl, h0, h⟩ := fits_cons h
  obtain ⟨v1, r, rfl, h1, h⟩ := fits_cons h
  obtain ⟨v2, r, rfl, h2, h⟩ := fits_cons h
  obtain ⟨v3, r, rfl, h3, h⟩ := fits_cons h
  obtain ⟨v4, r, rfl, h4, h⟩ := fits_cons h
  obtain ⟨v5, r, rfl, h5, h⟩ := fits_cons h
  obtain ⟨v6, r, rfl, h6, h⟩ := fits_cons h
  obtain ⟨v7, r, rfl, h7, h⟩ := fits_cons h
  obtain rfl := fits_nil h
  obtain ⟨n0, rfl, -⟩ := leaf_i64 h0
  obtain ⟨n1, rfl, -⟩ := leaf_i64 h1
  obtain ⟨n2, rfl, -⟩ := leaf_i64 h2
  obtain ⟨s3, rfl, -⟩ := h3
  obtain ⟨s4, rfl, -⟩ := h4
  obtain ⟨b5, rfl⟩ := h5
  obtain ⟨b6, rfl⟩ := h6
  obtain ⟨n7, rfl, -⟩ := leaf_i64 h7
  exact ⟨⟨n0, n1, n2, s3, s4, b5, b6, n7⟩, rfl, trivial⟩
theorem st_of {w : World} {cs : List Value} (h : Fits Try.prog w [.s, .i .i64, .b, .b] cs) : ∃ p : St, cs = p.cells ∧ True := by
  obtain ⟨v0, r, rfl, h0, h⟩ := fits_cons h
  obtain ⟨v1, r, rfl, h1, h⟩ := fits_cons h
  obtain ⟨v2, r, rfl, h2, h⟩ := fits_cons h
  obtain ⟨v3, r, rfl, h3, h⟩ := fits_cons h
  obtain rfl := fits_nil h
  obtain ⟨s0, rfl, -⟩ := h0
  obtain ⟨n1, rfl, -⟩ := leaf_i64 h1
  obtain ⟨b2, rfl⟩ := h2
  obtain ⟨b3, rfl⟩ := h3
  exact ⟨⟨s0, n1, b2, b3⟩, rfl, trivial⟩
end Go.Proofs.Ytnfkjicoielpnaa
