/-
  Arguments that are arrays of bytes.
-/
import Derived.Test.YtliemmdadfpdjaaOpen
namespace Go.Proofs.Ytliemmdadfpdjaa
open Go.RowKit Go.ChangeShapes Go.WideShapes Go.ChangeAt

theorem okWide_array {P : Program} {w : World} {r : Reach} {base : Nat} {t e : TypeId} {n : Nat} {v : Value} (ht : P.underlying t = some (.array n e)) (h : Value.okWide P w r base t v) : ∃ cs, v = .agg cs ∧ cs.size = P.cellsOf t := by
  simp only [Value.okWide, ht] at h
  obtain ⟨cs, h1, h2, _⟩ := h
  exact ⟨cs, h1, h2⟩

theorem bytes_fit {P : Program} {w : World} : ∀ {n : Nat} {cs : List Value}, Fits P w (List.replicate n (.i .u8)) cs → ∃ l : List UInt8, l.length = n ∧ cs = l.map By
  | 0, cs, h => ⟨[], rfl, fits_nil h⟩
  | n + 1, cs, h => by
    rw [List.replicate_succ] at h
    obtain ⟨v, r, rfl, ⟨k, rfl, hw⟩, h'⟩ := fits_cons h
    obtain ⟨l, hl, rfl⟩ := bytes_fit h'
    have hb := wf_u8_bounds hw
    refine ⟨UInt8.ofNat k.toNat :: l, by simp [hl], ?_⟩
    rw [List.map_cons]
    congr 1
    unfold By
    rw [UInt8.toNat_ofNat']
    congr 1
    omega
end Go.Proofs.Ytliemmdadfpdjaa
