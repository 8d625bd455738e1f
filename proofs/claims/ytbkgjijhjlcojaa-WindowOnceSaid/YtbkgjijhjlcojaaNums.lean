/-
  Slices of 16-bit numbers as data.
-/
import Derived.Test.YtbkgjijhjlcojaaWo
namespace Go.Proofs.Ytbkgjijhjlcojaa
open Go.RowKit

theorem u16s_of_isRow {w : World} {a : Option Addr} {len cap : Nat} {zs : List Int} (h : IsRow .u16 w a len cap zs) :
    ∃ l : List Nat, len = l.length ∧ Cells w a (l.map U16) ∧ ∀ x ∈ l, x < 65536 := by
  obtain ⟨h1, h2, h3, h4, h5⟩ := cells_of_isRow h
  have hb : ∀ n ∈ zs, 0 ≤ n ∧ n ≤ 65535 := fun n hn => by
    simpa [Lit.wf, IntKind.min, IntKind.max, IntKind.signed, IntKind.bits] using h5 n hn
  refine ⟨(zs.take len).map Int.toNat, by rw [List.length_map, h3], ?_, ?_⟩
  · have e : ((zs.take len).map Int.toNat).map U16 = (zs.take len).map (Value.int .u16) := by
      rw [List.map_map]
      apply List.map_congr_left
      intro n hn
      have := hb n (List.mem_of_mem_take hn)
      simp only [Function.comp, U16]
      congr 1; omega
    rw [e]; exact h4
  · intro x hx
    obtain ⟨n, hn, rfl⟩ := List.mem_map.1 hx
    have := hb n (List.mem_of_mem_take hn)
    omega

theorem once_any (oa : Option Addr) (c len : Nat) (l : List Nat) (w : World) (hl : len = l.length) (hc : Cells w oa (l.map U16)) (h16 : ∀ x ∈ l, x < 65536) :
    Calls Try.prog 4 #[.slice oa len c] w fun r w' => r = .returned (.bool true) ∧ Below w.heap.size w w' := by
  by_cases h : 100 < len
  · exact once_great oa c len w h
  · exact once_small oa c len l w hl hc h16 (by omega)
end Go.Proofs.Ytbkgjijhjlcojaa
