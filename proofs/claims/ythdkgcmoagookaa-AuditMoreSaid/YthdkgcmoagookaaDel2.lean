/-
  Parts of a block of the call's own that are rewritten; 'clear' of some elements of whatever size.
-/
import Derived.Test.YthdkgcmoagookaaMid
import Derived.Shelf.RegionOpenPlain
import Derived.Deep.RegionLaw
namespace Go.Proofs.Ythdkgcmoagookaa
open Go.RowKit

theorem Blk.setRange {w : World} {b : Nat} {cs vs : List Value} {o : Nat} (h : Blk w b cs) (hl : o + vs.length ≤ cs.length) : Blk (w.setCells b o vs) b (cs.take o ++ vs ++ cs.drop (o + vs.length)) := by
  have hsome : ∀ j, j < vs.length → (w.cell? ⟨b, o + j, none⟩).isSome = true := fun j hj => by rw [h.at' (o + j) (by omega)]; rfl
  refine ⟨Nat.lt_of_lt_of_le h.lt (setCells_grown b vs o w).size, fun i hi => ?_, fun i => by rw [setCells_frozen]; exact h.froz i⟩
  have hlen : (cs.take o ++ vs ++ cs.drop (o + vs.length)).length = cs.length := by simp; omega
  rw [hlen] at hi
  by_cases h1 : i < o
  · rw [World.cell?_setCells_out b vs o w ⟨b, i, none⟩ (fun _ _ => .inl h1), h.cell i hi, List.append_assoc, List.getElem?_append_left (by simp; omega), List.getElem?_take_of_lt h1]
  · by_cases h2 : i < o + vs.length
    · obtain ⟨j, rfl⟩ : ∃ j, i = o + j := ⟨i - o, by omega⟩
      rw [World.cell?_setCells_in b vs o w hsome j (by omega), List.append_assoc, List.getElem?_append_right (by simp; omega), List.length_take, show o + j - min o cs.length = j by omega, List.getElem?_append_left (by omega), List.getElem?_eq_getElem]
    · rw [World.cell?_setCells_out b vs o w ⟨b, i, none⟩ (fun _ _ => .inr (by simp only; omega)), h.cell i hi, List.getElem?_append_right (by simp; omega), List.getElem?_drop]
      congr 1
      simp; omega

theorem Blk.sub {w : World} {b : Nat} {cs ds : List Value} (h : Blk w b (cs ++ ds)) : Blk w b cs :=
  ⟨h.lt, fun i hi => by rw [h.cell i (by simp; omega), List.getElem?_append_left hi], h.froz⟩

theorem run_clear_blk {P : Program} {w : World} (t e : TypeId) {z : Value} (ht : P.underlying t = some (.slice e)) (hv : ∀ w, (zeroValue e).run P w = .ok z w) (h1 : ∀ u ∈ z.cells, u.oneCell' = true) {b : Nat} {cs : List Value} (hB : Blk w b cs) (o k n c : Nat)
    (hz : z.cells.size = k) (hk : 0 < k) (hn : 0 < n) (hl : o + n * k ≤ cs.length) :
    ∃ vs : List Value, vs.length = n * k ∧ ∀ ty, (Builtin.clear_ #[t] ty #[.slice (some ⟨b, o, none⟩) n c]).run P w = .ok (.tuple #[]) (w.setCells b o vs) := by
  subst hz
  have hlen : (Builtin.zeroCells z.cells n).toList.length = n * z.cells.size := by simp [Builtin.zeroCells]
  refine ⟨(Builtin.zeroCells z.cells n).toList, hlen, fun ty => ?_⟩
  have hst := run_storeCells_cells (P := P) b o (Builtin.zeroCells z.cells n).toList 0 w (fun j hj => by rw [hlen] at hj; rw [Nat.add_zero, hB.at' (o + j) (by omega)]; rfl) (fun j hj => hB.froz _) (by
    intro v hv'
    simp only [Builtin.zeroCells, Array.mem_toList_iff, Array.mem_map, Array.mem_range] at hv'
    obtain ⟨i, -, rfl⟩ := hv'
    rw [getElem!_pos z.cells _ (Nat.mod_lt _ hk)]
    exact h1 _ (Array.getElem_mem _))
  simp only [Nat.add_zero] at hst
  obtain ⟨m, rfl⟩ : ∃ m, n = m + 1 := ⟨n - 1, by omega⟩
  simp [Builtin.clear_, run_underlying ht, hv, hst]

/-- a row of the call's own stays as it is where another row changes -/
theorem Own.grown {w w' : World} {base : Nat} {e : TypeId} {size : Nat} {v : Value} {n : Nat} {xs : List Value} {row : Option Nat} (h : Own w base e size v n xs) (hg : w.grownBy w' row) (hne : ∀ b, v.ownBlock = some b → row ≠ some b) : Own w' base e size v n xs := by
  obtain ⟨h1, h2⟩ := h.row
  refine ⟨h1, ?_⟩
  rcases h2 with h2 | ⟨g, cap, cur, hv, hg', hh, r⟩
  · exact .inl h2
  · have hlt : g < w.heap.size := by
      by_cases hl : g < w.heap.size
      · exact hl
      · rw [Array.getElem?_eq_none (by omega)] at hh; cases hh
    exact .inr ⟨g, cap, cur, hv, hg', by rw [hg.block g hlt (fun e => hne g (by rw [hv]; rfl) e.symm)]; exact hh, r⟩
end Go.Proofs.Ythdkgcmoagookaa
