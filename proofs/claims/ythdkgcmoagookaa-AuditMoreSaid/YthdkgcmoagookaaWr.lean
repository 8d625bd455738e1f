/-
  What an argument that is a node, or an entry, is.
-/
import Derived.Test.YthdkgcmoagookaaWg
namespace Go.Proofs.Ythdkgcmoagookaa
open Go.RowKit
set_option maxHeartbeats 2000000
set_option linter.unusedVariables false

theorem nat_of (n : Int) (h : (Lit.int .u64 n).wf = true) : ∃ m : Nat, n = (m : Int) ∧ m < 18446744073709551616 := by
  have hb : 0 ≤ n ∧ n ≤ 18446744073709551615 := by simpa [Lit.wf, IntKind.min, IntKind.max, IntKind.signed, IntKind.bits] using h
  exact ⟨n.toNat, by omega, by omega⟩
theorem en_of {w : World} {cs : List Value} (h : Fits Try.prog w [.s, .i .u64, .i .i64, .i .i64, .i .i64, .s] cs) : ∃ p : En, cs = p.cells ∧ p.id < 18446744073709551616 := by
  obtain ⟨v0, r, rfl, h0, h⟩ := fits_cons h
  obtain ⟨v1, r, rfl, h1, h⟩ := fits_cons h
  obtain ⟨v2, r, rfl, h2, h⟩ := fits_cons h
  obtain ⟨v3, r, rfl, h3, h⟩ := fits_cons h
  obtain ⟨v4, r, rfl, h4, h⟩ := fits_cons h
  obtain ⟨v5, r, rfl, h5, h⟩ := fits_cons h
  obtain rfl := fits_nil h
  obtain ⟨a0, rfl, -⟩ := h0
  obtain ⟨n1, rfl, z1⟩ := h1
  obtain ⟨a1, rfl, y1⟩ := nat_of n1 z1
  obtain ⟨a2, rfl, -⟩ := h2
  obtain ⟨a3, rfl, -⟩ := h3
  obtain ⟨a4, rfl, -⟩ := h4
  obtain ⟨a5, rfl, -⟩ := h5
  exact ⟨⟨a0, a1, a2, a3, a4, a5⟩, rfl, y1⟩
theorem pe_of {w : World} {cs : List Value} (h : Fits Try.prog w [.s, .i .u64, .i .i64, .i .i64, .i .i64, .s, .i .i64, .i .i64] cs) : ∃ p : Pe, cs = p.cells ∧ p.ent.id < 18446744073709551616 := by
  obtain ⟨v0, r, rfl, h0, h⟩ := fits_cons h
  obtain ⟨v1, r, rfl, h1, h⟩ := fits_cons h
  obtain ⟨v2, r, rfl, h2, h⟩ := fits_cons h
  obtain ⟨v3, r, rfl, h3, h⟩ := fits_cons h
  obtain ⟨v4, r, rfl, h4, h⟩ := fits_cons h
  obtain ⟨v5, r, rfl, h5, h⟩ := fits_cons h
  obtain ⟨v6, r, rfl, h6, h⟩ := fits_cons h
  obtain ⟨v7, r, rfl, h7, h⟩ := fits_cons h
  obtain rfl := fits_nil h
  obtain ⟨a0, rfl, -⟩ := h0
  obtain ⟨n1, rfl, z1⟩ := h1
  obtain ⟨a1, rfl, y1⟩ := nat_of n1 z1
  obtain ⟨a2, rfl, -⟩ := h2
  obtain ⟨a3, rfl, -⟩ := h3
  obtain ⟨a4, rfl, -⟩ := h4
  obtain ⟨a5, rfl, -⟩ := h5
  obtain ⟨a6, rfl, -⟩ := h6
  obtain ⟨a7, rfl, -⟩ := h7
  exact ⟨⟨⟨a0, a1, a2, a3, a4, a5⟩, a6, a7⟩, rfl, y1⟩
theorem fi_of {w : World} {cs : List Value} (h : Fits Try.prog w [.i .i64, .s, .i .u64, .i .i64, .i .i64, .i .i64, .s, .i .i64, .i .i64] cs) : ∃ p : Fi, cs = p.cells ∧ p.peer.ent.id < 18446744073709551616 := by
  obtain ⟨v0, r, rfl, h0, h⟩ := fits_cons h
  obtain ⟨v1, r, rfl, h1, h⟩ := fits_cons h
  obtain ⟨v2, r, rfl, h2, h⟩ := fits_cons h
  obtain ⟨v3, r, rfl, h3, h⟩ := fits_cons h
  obtain ⟨v4, r, rfl, h4, h⟩ := fits_cons h
  obtain ⟨v5, r, rfl, h5, h⟩ := fits_cons h
  obtain ⟨v6, r, rfl, h6, h⟩ := fits_cons h
  obtain ⟨v7, r, rfl, h7, h⟩ := fits_cons h
  obtain ⟨v8, r, rfl, h8, h⟩ := fits_cons h
  obtain rfl := fits_nil h
  obtain ⟨a0, rfl, -⟩ := h0
  obtain ⟨a1, rfl, -⟩ := h1
  obtain ⟨n2, rfl, z2⟩ := h2
  obtain ⟨a2, rfl, y2⟩ := nat_of n2 z2
  obtain ⟨a3, rfl, -⟩ := h3
  obtain ⟨a4, rfl, -⟩ := h4
  obtain ⟨a5, rfl, -⟩ := h5
  obtain ⟨a6, rfl, -⟩ := h6
  obtain ⟨a7, rfl, -⟩ := h7
  obtain ⟨a8, rfl, -⟩ := h8
  exact ⟨⟨a0, ⟨⟨a1, a2, a3, a4, a5, a6⟩, a7, a8⟩⟩, rfl, y2⟩
theorem ses_of {w : World} {cs : List Value} (h : Fits Try.prog w [.i .u64, .i .u64, .s, .i .u64, .i .i64, .i .i64, .i .i64, .s, .i .i64, .i .i64, .s, .s, .i .i64, .i .i64, .i .i64, .i .i64, .i .i64, .i .u64, .i .u64, .i .i64] cs) : ∃ p : Ses, cs = p.cells ∧ True := by
  obtain ⟨v0, r, rfl, h0, h⟩ := fits_cons h
  obtain ⟨v1, r, rfl, h1, h⟩ := fits_cons h
  obtain ⟨v2, r, rfl, h2, h⟩ := fits_cons h
  obtain ⟨v3, r, rfl, h3, h⟩ := fits_cons h
  obtain ⟨v4, r, rfl, h4, h⟩ := fits_cons h
  obtain ⟨v5, r, rfl, h5, h⟩ := fits_cons h
  obtain ⟨v6, r, rfl, h6, h⟩ := fits_cons h
  obtain ⟨v7, r, rfl, h7, h⟩ := fits_cons h
  obtain ⟨v8, r, rfl, h8, h⟩ := fits_cons h
  obtain ⟨v9, r, rfl, h9, h⟩ := fits_cons h
  obtain ⟨v10, r, rfl, h10, h⟩ := fits_cons h
  obtain ⟨v11, r, rfl, h11, h⟩ := fits_cons h
  obtain ⟨v12, r, rfl, h12, h⟩ := fits_cons h
  obtain ⟨v13, r, rfl, h13, h⟩ := fits_cons h
  obtain ⟨v14, r, rfl, h14, h⟩ := fits_cons h
  obtain ⟨v15, r, rfl, h15, h⟩ := fits_cons h
  obtain ⟨v16, r, rfl, h16, h⟩ := fits_cons h
  obtain ⟨v17, r, rfl, h17, h⟩ := fits_cons h
  obtain ⟨v18, r, rfl, h18, h⟩ := fits_cons h
  obtain ⟨v19, r, rfl, h19, h⟩ := fits_cons h
  obtain rfl := fits_nil h
  obtain ⟨n0, rfl, z0⟩ := h0
  obtain ⟨a0, rfl, y0⟩ := nat_of n0 z0
  obtain ⟨n1, rfl, z1⟩ := h1
  obtain ⟨a1, rfl, y1⟩ := nat_of n1 z1
  obtain ⟨a2, rfl, -⟩ := h2
  obtain ⟨n3, rfl, z3⟩ := h3
  obtain ⟨a3, rfl, y3⟩ := nat_of n3 z3
  obtain ⟨a4, rfl, -⟩ := h4
  obtain ⟨a5, rfl, -⟩ := h5
  obtain ⟨a6, rfl, -⟩ := h6
  obtain ⟨a7, rfl, -⟩ := h7
  obtain ⟨a8, rfl, -⟩ := h8
  obtain ⟨a9, rfl, -⟩ := h9
  obtain ⟨a10, rfl, -⟩ := h10
  obtain ⟨a11, rfl, -⟩ := h11
  obtain ⟨a12, rfl, -⟩ := h12
  obtain ⟨a13, rfl, -⟩ := h13
  obtain ⟨a14, rfl, -⟩ := h14
  obtain ⟨a15, rfl, -⟩ := h15
  obtain ⟨a16, rfl, -⟩ := h16
  obtain ⟨n17, rfl, z17⟩ := h17
  obtain ⟨a17, rfl, y17⟩ := nat_of n17 z17
  obtain ⟨n18, rfl, z18⟩ := h18
  obtain ⟨a18, rfl, y18⟩ := nat_of n18 z18
  obtain ⟨a19, rfl, -⟩ := h19
  exact ⟨⟨a0, a1, ⟨a2, a3, a4, a5, a6, a7⟩, a8, a9, a10, a11, a12, a13, a14, a15, a16, a17, a18, a19⟩, rfl, trivial⟩
theorem it_of {w : World} {cs : List Value} (h : Fits Try.prog w [.s, .s, .i .i64, .b] cs) : ∃ p : It, cs = p.cells ∧ True := by
  obtain ⟨v0, r, rfl, h0, h⟩ := fits_cons h
  obtain ⟨v1, r, rfl, h1, h⟩ := fits_cons h
  obtain ⟨v2, r, rfl, h2, h⟩ := fits_cons h
  obtain ⟨v3, r, rfl, h3, h⟩ := fits_cons h
  obtain rfl := fits_nil h
  obtain ⟨a0, rfl, -⟩ := h0
  obtain ⟨a1, rfl, -⟩ := h1
  obtain ⟨a2, rfl, -⟩ := h2
  obtain ⟨a3, rfl⟩ := h3
  exact ⟨⟨a0, a1, a2, a3⟩, rfl, trivial⟩
theorem pd_of {w : World} {cs : List Value} (h : Fits Try.prog w [.i .i64, .i .i64, .i .i64, .i .i64, .i .i64, .i .u64, .s, .i .u64, .i .i64, .i .i64, .i .i64, .s, .i .i64, .i .i64, .i .i64, .i .i64, .i .u64, .b, .b, .s, .s, .sl 29, .sl 65] cs) : ∃ p : Pd, cs = p.cells ∧ p.m.Good w := by
  obtain ⟨v0, r, rfl, h0, h⟩ := fits_cons h
  obtain ⟨v1, r, rfl, h1, h⟩ := fits_cons h
  obtain ⟨v2, r, rfl, h2, h⟩ := fits_cons h
  obtain ⟨v3, r, rfl, h3, h⟩ := fits_cons h
  obtain ⟨v4, r, rfl, h4, h⟩ := fits_cons h
  obtain ⟨v5, r, rfl, h5, h⟩ := fits_cons h
  obtain ⟨v6, r, rfl, h6, h⟩ := fits_cons h
  obtain ⟨v7, r, rfl, h7, h⟩ := fits_cons h
  obtain ⟨v8, r, rfl, h8, h⟩ := fits_cons h
  obtain ⟨v9, r, rfl, h9, h⟩ := fits_cons h
  obtain ⟨v10, r, rfl, h10, h⟩ := fits_cons h
  obtain ⟨v11, r, rfl, h11, h⟩ := fits_cons h
  obtain ⟨v12, r, rfl, h12, h⟩ := fits_cons h
  obtain ⟨v13, r, rfl, h13, h⟩ := fits_cons h
  obtain ⟨v14, r, rfl, h14, h⟩ := fits_cons h
  obtain ⟨v15, r, rfl, h15, h⟩ := fits_cons h
  obtain ⟨v16, r, rfl, h16, h⟩ := fits_cons h
  obtain ⟨v17, r, rfl, h17, h⟩ := fits_cons h
  obtain ⟨v18, r, rfl, h18, h⟩ := fits_cons h
  obtain ⟨v19, r, rfl, h19, h⟩ := fits_cons h
  obtain ⟨v20, r, rfl, h20, h⟩ := fits_cons h
  obtain ⟨v21, r, rfl, h21, h⟩ := fits_cons h
  obtain ⟨v22, r, rfl, h22, h⟩ := fits_cons h
  obtain rfl := fits_nil h
  obtain ⟨a0, rfl, -⟩ := h0
  obtain ⟨a1, rfl, -⟩ := h1
  obtain ⟨a2, rfl, -⟩ := h2
  obtain ⟨a3, rfl, -⟩ := h3
  obtain ⟨a4, rfl, -⟩ := h4
  obtain ⟨n5, rfl, z5⟩ := h5
  obtain ⟨a5, rfl, y5⟩ := nat_of n5 z5
  obtain ⟨a6, rfl, -⟩ := h6
  obtain ⟨n7, rfl, z7⟩ := h7
  obtain ⟨a7, rfl, y7⟩ := nat_of n7 z7
  obtain ⟨a8, rfl, -⟩ := h8
  obtain ⟨a9, rfl, -⟩ := h9
  obtain ⟨a10, rfl, -⟩ := h10
  obtain ⟨a11, rfl, -⟩ := h11
  obtain ⟨a12, rfl, -⟩ := h12
  obtain ⟨a13, rfl, -⟩ := h13
  obtain ⟨a14, rfl, -⟩ := h14
  obtain ⟨a15, rfl, -⟩ := h15
  obtain ⟨n16, rfl, z16⟩ := h16
  obtain ⟨a16, rfl, y16⟩ := nat_of n16 z16
  obtain ⟨a17, rfl⟩ := h17
  obtain ⟨a18, rfl⟩ := h18
  obtain ⟨a19, rfl, -⟩ := h19
  obtain ⟨a20, rfl, -⟩ := h20
  obtain ⟨o21, k21, c21, l21, rfl, hl21, hm21, R21, ok21, -⟩ := rows_of (P := Try.prog) (w := w) (f := En.cells) (ok := fun p => p.id < 18446744073709551616) (e := 29) (by rw [show Try.prog.cellsOf 29 = 6 from by kernel_rfl]; omega)
    (fun cs h => en_of (fits_of 8 _ _ _ (show leaves Try.prog 8 29 = some [.s, .i .u64, .i .i64, .i .i64, .i .i64, .s] from by kernel_rfl) h)) h21
  obtain rfl := R21.len
  obtain ⟨o22, k22, c22, l22, rfl, hl22, hm22, R22, ok22, -⟩ := rows_of (P := Try.prog) (w := w) (f := It.cells) (ok := fun _ => True) (e := 65) (by rw [show Try.prog.cellsOf 65 = 4 from by kernel_rfl]; omega)
    (fun cs h => it_of (fits_of 8 _ _ _ (show leaves Try.prog 8 65 = some [.s, .s, .i .i64, .b] from by kernel_rfl) h)) h22
  obtain rfl := R22.len
  exact ⟨⟨a0, a1, a2, a3, a4, a5, ⟨a6, a7, a8, a9, a10, a11⟩, ⟨⟨a12, a13, a14, a15, a16, a17, a18, a19, a20, l21, l22⟩, o21, c21, o22, c22⟩⟩, rfl, ⟨⟨R21, hl21, hm21⟩, ⟨R22, hl22, hm22⟩⟩⟩
theorem str_of {w : World} {cs : List Value} (h : Fits Try.prog w [.s] cs) : ∃ p : ByteArray, cs = strC p ∧ True := by
  obtain ⟨v0, r, rfl, h0, h⟩ := fits_cons h
  obtain rfl := fits_nil h
  obtain ⟨a0, rfl, -⟩ := h0
  exact ⟨a0, rfl, trivial⟩
theorem jb_of {w : World} {cs : List Value} (h : Fits Try.prog w [.i .i64, .i .i64, .i .i64, .i .i64, .i .i64, .i .i64, .s, .s, .s, .i .u64, .i .i64, .i .i64, .i .i64, .s, .s, .s, .i .i64, .b, .i .i64, .i .i64, .sl 9, .s, .i .u64, .i .i64, .i .i64, .i .i64, .s, .i .i64, .i .i64] cs) : ∃ p : Jb, cs = p.cells ∧ p.asked.In strC w := by
  obtain ⟨v0, r, rfl, h0, h⟩ := fits_cons h
  obtain ⟨v1, r, rfl, h1, h⟩ := fits_cons h
  obtain ⟨v2, r, rfl, h2, h⟩ := fits_cons h
  obtain ⟨v3, r, rfl, h3, h⟩ := fits_cons h
  obtain ⟨v4, r, rfl, h4, h⟩ := fits_cons h
  obtain ⟨v5, r, rfl, h5, h⟩ := fits_cons h
  obtain ⟨v6, r, rfl, h6, h⟩ := fits_cons h
  obtain ⟨v7, r, rfl, h7, h⟩ := fits_cons h
  obtain ⟨v8, r, rfl, h8, h⟩ := fits_cons h
  obtain ⟨v9, r, rfl, h9, h⟩ := fits_cons h
  obtain ⟨v10, r, rfl, h10, h⟩ := fits_cons h
  obtain ⟨v11, r, rfl, h11, h⟩ := fits_cons h
  obtain ⟨v12, r, rfl, h12, h⟩ := fits_cons h
  obtain ⟨v13, r, rfl, h13, h⟩ := fits_cons h
  obtain ⟨v14, r, rfl, h14, h⟩ := fits_cons h
  obtain ⟨v15, r, rfl, h15, h⟩ := fits_cons h
  obtain ⟨v16, r, rfl, h16, h⟩ := fits_cons h
  obtain ⟨v17, r, rfl, h17, h⟩ := fits_cons h
  obtain ⟨v18, r, rfl, h18, h⟩ := fits_cons h
  obtain ⟨v19, r, rfl, h19, h⟩ := fits_cons h
  obtain ⟨v20, r, rfl, h20, h⟩ := fits_cons h
  obtain ⟨v21, r, rfl, h21, h⟩ := fits_cons h
  obtain ⟨v22, r, rfl, h22, h⟩ := fits_cons h
  obtain ⟨v23, r, rfl, h23, h⟩ := fits_cons h
  obtain ⟨v24, r, rfl, h24, h⟩ := fits_cons h
  obtain ⟨v25, r, rfl, h25, h⟩ := fits_cons h
  obtain ⟨v26, r, rfl, h26, h⟩ := fits_cons h
  obtain ⟨v27, r, rfl, h27, h⟩ := fits_cons h
  obtain ⟨v28, r, rfl, h28, h⟩ := fits_cons h
  obtain rfl := fits_nil h
  obtain ⟨a0, rfl, -⟩ := h0
  obtain ⟨a1, rfl, -⟩ := h1
  obtain ⟨a2, rfl, -⟩ := h2
  obtain ⟨a3, rfl, -⟩ := h3
  obtain ⟨a4, rfl, -⟩ := h4
  obtain ⟨a5, rfl, -⟩ := h5
  obtain ⟨a6, rfl, -⟩ := h6
  obtain ⟨a7, rfl, -⟩ := h7
  obtain ⟨a8, rfl, -⟩ := h8
  obtain ⟨n9, rfl, z9⟩ := h9
  obtain ⟨a9, rfl, y9⟩ := nat_of n9 z9
  obtain ⟨a10, rfl, -⟩ := h10
  obtain ⟨a11, rfl, -⟩ := h11
  obtain ⟨a12, rfl, -⟩ := h12
  obtain ⟨a13, rfl, -⟩ := h13
  obtain ⟨a14, rfl, -⟩ := h14
  obtain ⟨a15, rfl, -⟩ := h15
  obtain ⟨a16, rfl, -⟩ := h16
  obtain ⟨a17, rfl⟩ := h17
  obtain ⟨a18, rfl, -⟩ := h18
  obtain ⟨a19, rfl, -⟩ := h19
  obtain ⟨o20, k20, c20, l20, rfl, hl20, hm20, R20, ok20, -⟩ := rows_of (P := Try.prog) (w := w) (f := strC) (ok := fun _ => True) (e := 9) (by rw [show Try.prog.cellsOf 9 = 1 from by kernel_rfl]; omega)
    (fun cs h => str_of (fits_of 8 _ _ _ (show leaves Try.prog 8 9 = some [.s] from by kernel_rfl) h)) h20
  obtain rfl := R20.len
  obtain ⟨a21, rfl, -⟩ := h21
  obtain ⟨n22, rfl, z22⟩ := h22
  obtain ⟨a22, rfl, y22⟩ := nat_of n22 z22
  obtain ⟨a23, rfl, -⟩ := h23
  obtain ⟨a24, rfl, -⟩ := h24
  obtain ⟨a25, rfl, -⟩ := h25
  obtain ⟨a26, rfl, -⟩ := h26
  obtain ⟨a27, rfl, -⟩ := h27
  obtain ⟨a28, rfl, -⟩ := h28
  exact ⟨⟨a0, a1, a2, a3, a4, a5, a6, a7, ⟨a8, a9, a10, a11, a12, a13⟩, ⟨a14, a15, a16, a17⟩, a18, a19, ⟨l20, o20, c20⟩, ⟨a21, a22, a23, a24, a25, a26⟩, a27, a28⟩, rfl, ⟨⟨R20, hl20, hm20⟩⟩⟩
theorem rs_of {w : World} {cs : List Value} (h : Fits Try.prog w [.i .i64, .i .i64, .i .i64, .s, .s, .b, .b, .i .i64] cs) : ∃ p : Rs, cs = p.cells ∧ True := by
  obtain ⟨v0, r, rfl, h0, h⟩ := fits_cons h
  obtain ⟨v1, r, rfl, h1, h⟩ := fits_cons h
  obtain ⟨v2, r, rfl, h2, h⟩ := fits_cons h
  obtain ⟨v3, r, rfl, h3, h⟩ := fits_cons h
  obtain ⟨v4, r, rfl, h4, h⟩ := fits_cons h
  obtain ⟨v5, r, rfl, h5, h⟩ := fits_cons h
  obtain ⟨v6, r, rfl, h6, h⟩ := fits_cons h
  obtain ⟨v7, r, rfl, h7, h⟩ := fits_cons h
  obtain rfl := fits_nil h
  obtain ⟨a0, rfl, -⟩ := h0
  obtain ⟨a1, rfl, -⟩ := h1
  obtain ⟨a2, rfl, -⟩ := h2
  obtain ⟨a3, rfl, -⟩ := h3
  obtain ⟨a4, rfl, -⟩ := h4
  obtain ⟨a5, rfl⟩ := h5
  obtain ⟨a6, rfl⟩ := h6
  obtain ⟨a7, rfl, -⟩ := h7
  exact ⟨⟨a0, a1, a2, a3, a4, a5, a6, a7⟩, rfl, trivial⟩
theorem nd_of {w : World} {cs : List Value} (h : Fits Try.prog w [.s, .i .u64, .i .i64, .i .i64, .i .i64, .s, .i .i64, .s, .i .i64, .s, .b, .sl 50, .sl 50, .sl 63, .sl 77, .sl 83, .sl 65, .sl 67, .i .i64, .i .i64, .sl 27, .sl 70] cs) : ∃ p : Nd, cs = p.cells ∧ p.Good w ∧ ∀ q ∈ knownD p, q.ent.id < 18446744073709551616 := by
  obtain ⟨v0, r, rfl, h0, h⟩ := fits_cons h
  obtain ⟨v1, r, rfl, h1, h⟩ := fits_cons h
  obtain ⟨v2, r, rfl, h2, h⟩ := fits_cons h
  obtain ⟨v3, r, rfl, h3, h⟩ := fits_cons h
  obtain ⟨v4, r, rfl, h4, h⟩ := fits_cons h
  obtain ⟨v5, r, rfl, h5, h⟩ := fits_cons h
  obtain ⟨v6, r, rfl, h6, h⟩ := fits_cons h
  obtain ⟨v7, r, rfl, h7, h⟩ := fits_cons h
  obtain ⟨v8, r, rfl, h8, h⟩ := fits_cons h
  obtain ⟨v9, r, rfl, h9, h⟩ := fits_cons h
  obtain ⟨v10, r, rfl, h10, h⟩ := fits_cons h
  obtain ⟨v11, r, rfl, h11, h⟩ := fits_cons h
  obtain ⟨v12, r, rfl, h12, h⟩ := fits_cons h
  obtain ⟨v13, r, rfl, h13, h⟩ := fits_cons h
  obtain ⟨v14, r, rfl, h14, h⟩ := fits_cons h
  obtain ⟨v15, r, rfl, h15, h⟩ := fits_cons h
  obtain ⟨v16, r, rfl, h16, h⟩ := fits_cons h
  obtain ⟨v17, r, rfl, h17, h⟩ := fits_cons h
  obtain ⟨v18, r, rfl, h18, h⟩ := fits_cons h
  obtain ⟨v19, r, rfl, h19, h⟩ := fits_cons h
  obtain ⟨v20, r, rfl, h20, h⟩ := fits_cons h
  obtain ⟨v21, r, rfl, h21, h⟩ := fits_cons h
  obtain rfl := fits_nil h
  obtain ⟨a0, rfl, -⟩ := h0
  obtain ⟨n1, rfl, z1⟩ := h1
  obtain ⟨a1, rfl, y1⟩ := nat_of n1 z1
  obtain ⟨a2, rfl, -⟩ := h2
  obtain ⟨a3, rfl, -⟩ := h3
  obtain ⟨a4, rfl, -⟩ := h4
  obtain ⟨a5, rfl, -⟩ := h5
  obtain ⟨a6, rfl, -⟩ := h6
  obtain ⟨a7, rfl, -⟩ := h7
  obtain ⟨a8, rfl, -⟩ := h8
  obtain ⟨a9, rfl, -⟩ := h9
  obtain ⟨a10, rfl⟩ := h10
  obtain ⟨o11, k11, c11, l11, rfl, hl11, hm11, R11, ok11, -⟩ := rows_of (P := Try.prog) (w := w) (f := Pe.cells) (ok := fun p => p.ent.id < 18446744073709551616) (e := 50) (by rw [show Try.prog.cellsOf 50 = 8 from by kernel_rfl]; omega)
    (fun cs h => pe_of (fits_of 8 _ _ _ (show leaves Try.prog 8 50 = some [.s, .i .u64, .i .i64, .i .i64, .i .i64, .s, .i .i64, .i .i64] from by kernel_rfl) h)) h11
  obtain rfl := R11.len
  obtain ⟨o12, k12, c12, l12, rfl, hl12, hm12, R12, ok12, -⟩ := rows_of (P := Try.prog) (w := w) (f := Pe.cells) (ok := fun p => p.ent.id < 18446744073709551616) (e := 50) (by rw [show Try.prog.cellsOf 50 = 8 from by kernel_rfl]; omega)
    (fun cs h => pe_of (fits_of 8 _ _ _ (show leaves Try.prog 8 50 = some [.s, .i .u64, .i .i64, .i .i64, .i .i64, .s, .i .i64, .i .i64] from by kernel_rfl) h)) h12
  obtain rfl := R12.len
  obtain ⟨o13, k13, c13, l13, rfl, hl13, hm13, R13, ok13, -⟩ := rows_of (P := Try.prog) (w := w) (f := Fi.cells) (ok := fun p => p.peer.ent.id < 18446744073709551616) (e := 63) (by rw [show Try.prog.cellsOf 63 = 9 from by kernel_rfl]; omega)
    (fun cs h => fi_of (fits_of 8 _ _ _ (show leaves Try.prog 8 63 = some [.i .i64, .s, .i .u64, .i .i64, .i .i64, .i .i64, .s, .i .i64, .i .i64] from by kernel_rfl) h)) h13
  obtain rfl := R13.len
  obtain ⟨o14, k14, c14, l14, rfl, hl14, hm14, R14, ok14, -⟩ := rows_of (P := Try.prog) (w := w) (f := Ses.cells) (ok := fun _ => True) (e := 77) (by rw [show Try.prog.cellsOf 77 = 20 from by kernel_rfl]; omega)
    (fun cs h => ses_of (fits_of 8 _ _ _ (show leaves Try.prog 8 77 = some [.i .u64, .i .u64, .s, .i .u64, .i .i64, .i .i64, .i .i64, .s, .i .i64, .i .i64, .s, .s, .i .i64, .i .i64, .i .i64, .i .i64, .i .i64, .i .u64, .i .u64, .i .i64] from by kernel_rfl) h)) h14
  obtain rfl := R14.len
  obtain ⟨o15, k15, c15, l15, rfl, hl15, hm15, R15, ok15, -⟩ := rows_of (P := Try.prog) (w := w) (f := Pd.cells) (ok := fun p => p.m.Good w) (e := 83) (by rw [show Try.prog.cellsOf 83 = 23 from by kernel_rfl]; omega)
    (fun cs h => pd_of (fits_of 8 _ _ _ (show leaves Try.prog 8 83 = some [.i .i64, .i .i64, .i .i64, .i .i64, .i .i64, .i .u64, .s, .i .u64, .i .i64, .i .i64, .i .i64, .s, .i .i64, .i .i64, .i .i64, .i .i64, .i .u64, .b, .b, .s, .s, .sl 29, .sl 65] from by kernel_rfl) h)) h15
  obtain rfl := R15.len
  obtain ⟨o16, k16, c16, l16, rfl, hl16, hm16, R16, ok16, -⟩ := rows_of (P := Try.prog) (w := w) (f := It.cells) (ok := fun _ => True) (e := 65) (by rw [show Try.prog.cellsOf 65 = 4 from by kernel_rfl]; omega)
    (fun cs h => it_of (fits_of 8 _ _ _ (show leaves Try.prog 8 65 = some [.s, .s, .i .i64, .b] from by kernel_rfl) h)) h16
  obtain rfl := R16.len
  obtain ⟨o17, k17, c17, l17, rfl, hl17, hm17, R17, ok17, -⟩ := rows_of (P := Try.prog) (w := w) (f := Jb.cells) (ok := fun p => p.asked.In strC w) (e := 67) (by rw [show Try.prog.cellsOf 67 = 29 from by kernel_rfl]; omega)
    (fun cs h => jb_of (fits_of 8 _ _ _ (show leaves Try.prog 8 67 = some [.i .i64, .i .i64, .i .i64, .i .i64, .i .i64, .i .i64, .s, .s, .s, .i .u64, .i .i64, .i .i64, .i .i64, .s, .s, .s, .i .i64, .b, .i .i64, .i .i64, .sl 9, .s, .i .u64, .i .i64, .i .i64, .i .i64, .s, .i .i64, .i .i64] from by kernel_rfl) h)) h17
  obtain rfl := R17.len
  obtain ⟨a18, rfl, -⟩ := h18
  obtain ⟨a19, rfl, -⟩ := h19
  obtain ⟨o20, k20, c20, rfl⟩ : ∃ o k c, v20 = .slice o k c := by
    rcases h20 with rfl | ⟨a, len, cap, rfl, -⟩
    · exact ⟨_, _, _, rfl⟩
    · exact ⟨_, _, _, rfl⟩
  obtain ⟨o21, k21, c21, l21, rfl, hl21, hm21, R21, ok21, -⟩ := rows_of (P := Try.prog) (w := w) (f := Rs.cells) (ok := fun _ => True) (e := 70) (by rw [show Try.prog.cellsOf 70 = 8 from by kernel_rfl]; omega)
    (fun cs h => rs_of (fits_of 8 _ _ _ (show leaves Try.prog 8 70 = some [.i .i64, .i .i64, .i .i64, .s, .s, .b, .b, .i .i64] from by kernel_rfl) h)) h21
  obtain rfl := R21.len
  refine ⟨⟨⟨a0, a1, a2, a3, a4, a5⟩, a6, a7, a8, a9, a10, ⟨l11, o11, c11⟩, ⟨l12, o12, c12⟩, ⟨l13, o13, c13⟩, ⟨l14, o14, c14⟩, ⟨l15, o15, c15⟩, ⟨l16, o16, c16⟩, ⟨l17, o17, c17⟩, a18, a19, o20, k20, c20, ⟨l21, o21, c21⟩⟩, rfl, ⟨⟨⟨R11, hl11, hm11⟩⟩, ⟨⟨R12, hl12, hm12⟩⟩, ⟨⟨R13, hl13, hm13⟩⟩, ⟨⟨R14, hl14, hm14⟩⟩, ⟨⟨⟨R15, hl15, hm15⟩⟩, ok15⟩, ⟨⟨R16, hl16, hm16⟩⟩, ⟨⟨⟨R17, hl17, hm17⟩⟩, ok17⟩, ⟨⟨R21, hl21, hm21⟩⟩⟩, fun q hq => ?_⟩
  simp only [knownD, List.mem_append, List.mem_map] at hq
  rcases hq with (hq | hq) | ⟨f, hf, rfl⟩
  · exact ok11 q hq
  · exact ok12 q hq
  · exact ok13 f hf
end Go.Proofs.Ythdkgcmoagookaa
