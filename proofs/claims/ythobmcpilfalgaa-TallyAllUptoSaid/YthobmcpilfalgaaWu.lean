/-
  What an argument that is a packet is, where all that is read is of no great bulk.
-/
import Derived.Test.YthobmcpilfalgaaWa
import Derived.Test.YthobmcpilfalgaaOpen3
namespace Go.Proofs.Ythobmcpilfalgaa.Upto
open Go.RowKit
set_option linter.unusedVariables false
set_option linter.unusedSimpArgs false

theorem by_of {P : Program} {w : World} {cs : List Value} (h : Fits P w [.i .u8] cs) : ∃ x : UInt8, cs = [By x] ∧ True := by
  obtain ⟨v, r, rfl, h0, h⟩ := fits_cons h
  obtain rfl := fits_nil h
  obtain ⟨n, rfl, hw⟩ := h0
  have hb : 0 ≤ n ∧ n ≤ 255 := by simpa [Lit.wf, IntKind.min, IntKind.max, IntKind.signed, IntKind.bits] using hw
  refine ⟨UInt8.ofNat n.toNat, ?_, trivial⟩
  unfold By
  rw [UInt8.toNat_ofNat']
  congr 2
  omega
theorem flat_one (l : List UInt8) : l.flatMap (fun x => [By x]) = l.map By := by
  induction l with
  | nil => rfl
  | cons a l ih => simp [ih]
theorem pk_of {w : World} {cs : List Value} (h : Fits Try.prog w [.s, .s, .sl 5] cs) : ∃ p : Pk, cs = p.cells ∧ (p.Ok w ∧ p.n ≤ 1048576) := by
  obtain ⟨v0, r, rfl, h0, h⟩ := fits_cons h
  obtain ⟨v1, r, rfl, h1, h⟩ := fits_cons h
  obtain ⟨v2, r, rfl, h2, h⟩ := fits_cons h
  obtain rfl := fits_nil h
  obtain ⟨f, rfl, -⟩ := h0
  obtain ⟨t, rfl, -⟩ := h1
  obtain ⟨oa, n, c, l, rfl, hle, hcap, hrb, hln, hR, -, -⟩ := rows_of (P := Try.prog) (w := w) (f := fun x : UInt8 => [By x]) (ok := fun _ => True) (e := 5) (by rw [show Try.prog.cellsOf 5 = 1 from by kernel_rfl]; omega)
    (fun cs h => by_of (fits_of 2 _ _ _ (show leaves Try.prog 2 5 = some [.i .u8] from by kernel_rfl) h)) h2
  refine ⟨⟨f, t, oa, n, c, l⟩, rfl, ⟨⟨hR.len, ?_⟩, hle, hcap, ?_⟩, hln⟩
  · have := hR.cells
    rwa [flat_one] at this
  · rwa [show Try.prog.bytesOf 5 = 1 from by kernel_rfl, Nat.mul_one] at hrb
end Go.Proofs.Ythobmcpilfalgaa.Upto
