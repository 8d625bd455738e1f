/-
  What an argument that is a request is.
-/
import Derived.Test.YtmbakknpnilooaaWa
namespace Go.Proofs.Ytmbakknpnilooaa
open Go.RowKit
set_option linter.unusedVariables false

theorem nat_of (n : Int) (h : (Lit.int .u64 n).wf = true) : ∃ m : Nat, n = (m : Int) := by
  have hb : 0 ≤ n ∧ n ≤ 18446744073709551615 := by simpa [Lit.wf, IntKind.min, IntKind.max, IntKind.signed, IntKind.bits] using h
  exact ⟨n.toNat, by omega⟩
theorem en_of {w : World} {cs : List Value} (h : Fits Try.prog w [.s, .i .u64, .i .i64, .i .i64, .i .i64, .s] cs) : ∃ p : En, cs = p.cells ∧ True := by
  obtain ⟨v0, r, rfl, h0, h⟩ := fits_cons h
  obtain ⟨v1, r, rfl, h1, h⟩ := fits_cons h
  obtain ⟨v2, r, rfl, h2, h⟩ := fits_cons h
  obtain ⟨v3, r, rfl, h3, h⟩ := fits_cons h
  obtain ⟨v4, r, rfl, h4, h⟩ := fits_cons h
  obtain ⟨v5, r, rfl, h5, h⟩ := fits_cons h
  obtain rfl := fits_nil h
  obtain ⟨pn, rfl, z2⟩ := h0
  obtain ⟨n3, rfl, z3⟩ := h1
  obtain ⟨pi, rfl⟩ := nat_of n3 z3
  obtain ⟨pf, rfl, z4⟩ := h2
  obtain ⟨pt, rfl, z5⟩ := h3
  obtain ⟨px, rfl, z6⟩ := h4
  obtain ⟨pg, rfl, z7⟩ := h5
  exact ⟨⟨pn, pi, pf, pt, px, pg⟩, rfl, trivial⟩
theorem it_of {w : World} {cs : List Value} (h : Fits Try.prog w [.s, .s, .i .i64, .b] cs) : ∃ p : It, cs = p.cells ∧ True := by
  obtain ⟨v0, r, rfl, h0, h⟩ := fits_cons h
  obtain ⟨v1, r, rfl, h1, h⟩ := fits_cons h
  obtain ⟨v2, r, rfl, h2, h⟩ := fits_cons h
  obtain ⟨v3, r, rfl, h3, h⟩ := fits_cons h
  obtain rfl := fits_nil h
  obtain ⟨a, rfl, -⟩ := h0
  obtain ⟨b, rfl, -⟩ := h1
  obtain ⟨n, rfl, -⟩ := h2
  obtain ⟨g, rfl⟩ := h3
  exact ⟨⟨a, b, n, g⟩, rfl, trivial⟩
theorem pd_of {w : World} {cs : List Value} (h : Fits Try.prog w [.i .i64, .i .i64, .i .i64, .i .i64, .i .i64, .i .u64, .s, .i .u64, .i .i64, .i .i64, .i .i64, .s, .i .i64, .i .i64, .i .i64, .i .i64, .i .u64, .b, .b, .s, .s, .sl 25, .sl 68] cs) : ∃ p : Pd, cs = p.cells ∧ p.m.Good w := by
  obtain ⟨v0, r, rfl, h0, h⟩ := fits_cons h
  obtain ⟨v1, r, rfl, h1, h⟩ := fits_cons h
  obtain ⟨v2, r, rfl, h2, h⟩ := fits_cons h
  obtain ⟨v3, r, rfl, h3, h⟩ := fits_cons h
  obtain ⟨v4, r, rfl, h4, h⟩ := fits_cons h
  obtain ⟨v5, r, rfl, h5, h⟩ := fits_cons h
  obtain ⟨v6, r, rfl, h6, h⟩ := fits_cons h
  obtain ⟨v7, r, rfl, h7, h⟩ := fits_cons h
  obtain ⟨v8, r, rfl, h8, h⟩ := fits_cons h
  obtain ⟨v9, r, rfl, h9, h⟩ := fits_cons h
  obtain ⟨v10, r, rfl, h10, h⟩ := fits_cons h
  obtain ⟨v11, r, rfl, h11, h⟩ := fits_cons h
  obtain ⟨v12, r, rfl, h12, h⟩ := fits_cons h
  obtain ⟨v13, r, rfl, h13, h⟩ := fits_cons h
  obtain ⟨v14, r, rfl, h14, h⟩ := fits_cons h
  obtain ⟨v15, r, rfl, h15, h⟩ := fits_cons h
  obtain ⟨v16, r, rfl, h16, h⟩ := fits_cons h
  obtain ⟨v17, r, rfl, h17, h⟩ := fits_cons h
  obtain ⟨v18, r, rfl, h18, h⟩ := fits_cons h
  obtain ⟨v19, r, rfl, h19, h⟩ := fits_cons h
  obtain ⟨v20, r, rfl, h20, h⟩ := fits_cons h
  obtain ⟨v21, r, rfl, h21, h⟩ := fits_cons h
  obtain ⟨v22, r, rfl, h22, h⟩ := fits_cons h
  obtain rfl := fits_nil h
  obtain ⟨rid, rfl, z0⟩ := h0
  obtain ⟨why, rfl, z1⟩ := h1
  obtain ⟨job, rfl, z2⟩ := h2
  obtain ⟨til, rfl, z3⟩ := h3
  obtain ⟨tries, rfl, z4⟩ := h4
  obtain ⟨n5, rfl, z5⟩ := h5
  obtain ⟨sess, rfl⟩ := nat_of n5 z5
  obtain ⟨name, rfl, z6⟩ := h6
  obtain ⟨n7, rfl, z7⟩ := h7
  obtain ⟨id, rfl⟩ := nat_of n7 z7
  obtain ⟨frm, rfl, z8⟩ := h8
  obtain ⟨tl, rfl, z9⟩ := h9
  obtain ⟨idx, rfl, z10⟩ := h10
  obtain ⟨tag, rfl, z11⟩ := h11
  obtain ⟨mk, rfl, z12⟩ := h12
  obtain ⟨mr, rfl, z13⟩ := h13
  obtain ⟨mv, rfl, z14⟩ := h14
  obtain ⟨me, rfl, z15⟩ := h15
  obtain ⟨n16, rfl, z16⟩ := h16
  obtain ⟨mid, rfl⟩ := nat_of n16 z16
  obtain ⟨mh, rfl⟩ := h17
  obtain ⟨mg, rfl⟩ := h18
  obtain ⟨mkey, rfl, z19⟩ := h19
  obtain ⟨mval, rfl, z20⟩ := h20
  obtain ⟨o21, k21, c21, l21, rfl, hl21, hm21, R21, -, -⟩ := rows_of (P := Try.prog) (w := w) (f := En.cells) (ok := fun _ => True) (e := 25) (by rw [show Try.prog.cellsOf 25 = 6 from by kernel_rfl]; omega)
    (fun cs h => en_of (fits_of 6 _ _ _ (show leaves Try.prog 6 25 = some [.s, .i .u64, .i .i64, .i .i64, .i .i64, .s] from by kernel_rfl) h)) h21
  obtain rfl := R21.len
  obtain ⟨o22, k22, c22, l22, rfl, hl22, hm22, R22, -, -⟩ := rows_of (P := Try.prog) (w := w) (f := It.cells) (ok := fun _ => True) (e := 68) (by rw [show Try.prog.cellsOf 68 = 4 from by kernel_rfl]; omega)
    (fun cs h => it_of (fits_of 6 _ _ _ (show leaves Try.prog 6 68 = some [.s, .s, .i .i64, .b] from by kernel_rfl) h)) h22
  obtain rfl := R22.len
  exact ⟨⟨rid, why, job, til, tries, sess, ⟨name, id, frm, tl, idx, tag⟩, ⟨⟨mk, mr, mv, me, mid, mh, mg, mkey, mval, l21, l22⟩, o21, c21, o22, c22⟩⟩, rfl, ⟨⟨R21, hl21, hm21⟩, ⟨R22, hl22, hm22⟩⟩⟩
end Go.Proofs.Ytmbakknpnilooaa
