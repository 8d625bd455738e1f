/-
  What an argument that is a session, or a number, is.
-/
import Derived.Test.YtmfglppgpjplfaaWg
namespace Go.Proofs.Ytmfglppgpjplfaa
open Go.RowKit
set_option linter.unusedVariables false

theorem nat_of (n : Int) (h : (Lit.int .u64 n).wf = true) : ∃ m : Nat, n = (m : Int) := by
  have hb : 0 ≤ n ∧ n ≤ 18446744073709551615 := by simpa [Lit.wf, IntKind.min, IntKind.max, IntKind.signed, IntKind.bits] using h
  exact ⟨n.toNat, by omega⟩
theorem ses_of {w : World} {cs : List Value} (h : Fits Try.prog w [.i .u64, .i .u64, .s, .i .u64, .i .i64, .i .i64, .i .i64, .s, .i .i64, .i .i64, .s, .s, .i .i64, .i .i64, .i .i64, .i .i64, .i .i64, .i .u64, .i .u64, .i .i64] cs) : ∃ p : Ses, cs = p.cells ∧ p.Wf := by
  obtain ⟨v0, r, rfl, h0, h⟩ := fits_cons h
  obtain ⟨v1, r, rfl, h1, h⟩ := fits_cons h
  obtain ⟨v2, r, rfl, h2, h⟩ := fits_cons h
  obtain ⟨v3, r, rfl, h3, h⟩ := fits_cons h
  obtain ⟨v4, r, rfl, h4, h⟩ := fits_cons h
  obtain ⟨v5, r, rfl, h5, h⟩ := fits_cons h
  obtain ⟨v6, r, rfl, h6, h⟩ := fits_cons h
  obtain ⟨v7, r, rfl, h7, h⟩ := fits_cons h
  obtain ⟨v8, r, rfl, h8, h⟩ := fits_cons h
  obtain ⟨v9, r, rfl, h9, h⟩ := fits_cons h
  obtain ⟨v10, r, rfl, h10, h⟩ := fits_cons h
  obtain ⟨v11, r, rfl, h11, h⟩ := fits_cons h
  obtain ⟨v12, r, rfl, h12, h⟩ := fits_cons h
  obtain ⟨v13, r, rfl, h13, h⟩ := fits_cons h
  obtain ⟨v14, r, rfl, h14, h⟩ := fits_cons h
  obtain ⟨v15, r, rfl, h15, h⟩ := fits_cons h
  obtain ⟨v16, r, rfl, h16, h⟩ := fits_cons h
  obtain ⟨v17, r, rfl, h17, h⟩ := fits_cons h
  obtain ⟨v18, r, rfl, h18, h⟩ := fits_cons h
  obtain ⟨v19, r, rfl, h19, h⟩ := fits_cons h
  obtain rfl := fits_nil h
  obtain ⟨n0, rfl, z0⟩ := h0
  obtain ⟨id, rfl⟩ := nat_of n0 z0
  obtain ⟨n1, rfl, z1⟩ := h1
  obtain ⟨nonce, rfl⟩ := nat_of n1 z1
  obtain ⟨pn, rfl, z2⟩ := h2
  obtain ⟨n3, rfl, z3⟩ := h3
  obtain ⟨pi, rfl⟩ := nat_of n3 z3
  obtain ⟨pf, rfl, z4⟩ := h4
  obtain ⟨pt, rfl, z5⟩ := h5
  obtain ⟨px, rfl, z6⟩ := h6
  obtain ⟨pg, rfl, z7⟩ := h7
  obtain ⟨role, rfl, z8⟩ := h8
  obtain ⟨state, rfl, z9⟩ := h9
  obtain ⟨send, rfl, z10⟩ := h10
  obtain ⟨hear, rfl, z11⟩ := h11
  obtain ⟨epoch, rfl, z12⟩ := h12
  obtain ⟨count, rfl, z13⟩ := h13
  obtain ⟨since, rfl, z14⟩ := h14
  obtain ⟨seq, rfl, z15⟩ := h15
  obtain ⟨top, rfl, z16⟩ := h16
  obtain ⟨n17, rfl, z17⟩ := h17
  obtain ⟨low, rfl⟩ := nat_of n17 z17
  obtain ⟨n18, rfl, z18⟩ := h18
  obtain ⟨high, rfl⟩ := nat_of n18 z18
  obtain ⟨used, rfl, z19⟩ := h19
  exact ⟨⟨id, nonce, ⟨pn, pi, pf, pt, px, pg⟩, role, state, send, hear, epoch, count, since, seq, top, low, high, used⟩, rfl, wf_of _ z0 z1 z2 z3 z4 z5 z6 z7 z8 z9 z10 z11 z12 z13 z14 z15 z16 z17 z18 z19⟩
theorem num_of {w : World} {cs : List Value} (h : Fits Try.prog w [.i .u64] cs) : ∃ n : Nat, cs = [.int .u64 n] ∧ True := by
  obtain ⟨v0, r, rfl, h0, h⟩ := fits_cons h
  obtain rfl := fits_nil h
  obtain ⟨n0, rfl, z0⟩ := h0
  obtain ⟨m, rfl⟩ := nat_of n0 z0
  exact ⟨m, rfl, trivial⟩
end Go.Proofs.Ytmfglppgpjplfaa
