/-
  A block of the call's own, cell by cell: what it holds, and that it may be written.
-/
import Derived.Test.YthdkgcmoagookaaBase
import Derived.OwnWalk
import Derived.WalkSmall
namespace Go.Proofs.Ythdkgcmoagookaa
open Go.RowKit

/-- a block whose first cells hold these values and may be written -/
structure Blk (w : World) (b : Nat) (cs : List Value) : Prop where
  lt : b < w.heap.size
  cell : ∀ i, i < cs.length → w.cell? ⟨b, i, none⟩ = cs[i]?
  froz : ∀ i, w.frozen? ⟨b, i, none⟩ = false

theorem Blk.later {w w' : World} {b : Nat} {cs : List Value} (h : Blk w b cs) (hb : Below w.heap.size w w') : Blk w' b cs :=
  ⟨Nat.lt_of_lt_of_le h.lt hb.size, fun i hi => by rw [hb.cell (p := ⟨b, i, none⟩) h.lt]; exact h.cell i hi, fun i => by rw [hb.frozen (p := ⟨b, i, none⟩) h.lt]; exact h.froz i⟩

theorem Blk.drew {w : World} {b : Nat} {cs : List Value} (h : Blk w b cs) : Blk w.drew b cs := h.later (below_drew w)
theorem Blk.drewN {w : World} {b : Nat} {cs : List Value} (h : Blk w b cs) (n : Nat) : Blk (w.drewN n) b cs := ⟨h.lt, h.cell, h.froz⟩
theorem Below.drewN' {B : Nat} {w w' : World} (h : Below B w w') (n : Nat) : Below B w (w'.drewN n) := ⟨h.os, h.tape, h.output, h.size, h.block⟩
theorem Blk.alloc {w : World} {b : Nat} {cs : List Value} (h : Blk w b cs) (o : Obj) : Blk (w.alloc o) b cs := h.later ((Below.refl _ _).alloc (Nat.le_refl _) _)

theorem Blk.of_block {w : World} {b : Nat} {cs : List Value} {e : TypeId} (h : w.heap[b]? = some (.cells cs.toArray e)) : Blk w b cs := by
  refine ⟨?_, fun i hi => ?_, fun i => ?_⟩
  · by_cases hl : b < w.heap.size
    · exact hl
    · rw [Array.getElem?_eq_none (by omega)] at h; cases h
  · rw [cell_of_row w b i cs.toArray e (0, 0) h]; simp
  · simp [World.frozen?, h]

theorem Blk.new (w : World) (cs : List Value) (e : TypeId) : Blk (w.alloc (.cells cs.toArray e)) w.heap.size cs :=
  Blk.of_block (e := e) (by rw [heap_alloc_at, if_pos rfl])
theorem Blk.first (w : World) (cs : List Value) (e : TypeId) (o : Obj) : Blk ((w.alloc (.cells cs.toArray e)).alloc o) w.heap.size cs := (Blk.new w cs e).alloc o
theorem Blk.second (w : World) (cs : List Value) (e : TypeId) (o : Obj) : Blk ((w.alloc o).alloc (.cells cs.toArray e)) (w.heap.size + 1) cs :=
  Blk.of_block (e := e) (by rw [heap_alloc_at, if_pos (by simp)])

theorem Blk.cast {w : World} {b : Nat} {cs cs' : List Value} (h : Blk w b cs) (e : cs = cs') : Blk w b cs' := e ▸ h
theorem Blk.new' {w : World} {b : Nat} {cs : List Value} {e : TypeId} (h : b = w.heap.size) : Blk (w.alloc (.cells cs.toArray e)) b cs := h ▸ Blk.new w cs e

theorem Blk.setOther {w : World} {b : Nat} {cs : List Value} (h : Blk w b cs) {a : Addr} (ha : a.block ≠ b) (u : Value) : Blk (w.setCell a u) b cs :=
  ⟨by have := h.lt; simpa [World.setCell] using this, fun i hi => by rw [World.cell?_setCell_far _ _ _ _ ha]; exact h.cell i hi, fun i => by rw [World.frozen?_setCell]; exact h.froz i⟩

theorem Blk.set {w : World} {b : Nat} {cs : List Value} (h : Blk w b cs) (i : Nat) (hi : i < cs.length) (u : Value) : Blk (w.setCell ⟨b, i, none⟩ u) b (cs.set i u) := by
  refine ⟨by have := h.lt; simpa [World.setCell] using this, fun j hj => ?_, fun j => by rw [World.frozen?_setCell]; exact h.froz j⟩
  rw [List.length_set] at hj
  by_cases e : i = j
  · subst e
    have hc := h.cell i hi
    rw [List.getElem?_eq_getElem hi] at hc
    rw [World.cell?_setCell_same _ _ _ hc, List.getElem?_set_self hi]
  · rw [World.cell?_setCell_other _ _ _ _ (fun he => e (Addr.mk.inj he).2.1), List.getElem?_set_ne e]
    exact h.cell j hj

theorem Blk.at' {w : World} {b : Nat} {cs : List Value} (h : Blk w b cs) (i : Nat) (hi : i < cs.length) : w.cell? ⟨b, i, none⟩ = some cs[i] := by
  rw [h.cell i hi, List.getElem?_eq_getElem hi]

theorem Blk.cells {w : World} {b : Nat} {cs : List Value} (h : Blk w b cs) : Cells w (some ⟨b, 0, none⟩) cs := fun i hi => ⟨b, 0, rfl, by rw [Nat.zero_add]; exact h.cell i hi⟩
theorem madeCells_one (z : Value) (n : Nat) : madeCells #[z] n = (List.replicate n z).toArray := by
  apply Array.ext
  · simp [size_madeCells]
  · intro i h1 h2
    simp [madeCells, Nat.mod_one]

/-- a new row of zero words -/
theorem run_make_blk {P : Program} (w : World) (t e : TypeId) (z : Value) (bytes : Nat) (ht : P.underlying t = some (.slice e)) (hi : (P.info? e).map (fun i => (i.zero, i.size, i.bytes)) = some (some z, 1, bytes)) (hz : z.cells = #[z])
    (kl kc : IntKind) (n : Nat) (hb : bytes * n ≤ 281474976710656) (hm : n ≤ maxLen) :
    (Instr.makeSlice t (.int kl n) (.int kc n)).run P w = .ok (.slice (some ⟨w.heap.size, 0, none⟩) n n) (w.alloc (.cells (List.replicate n z).toArray e)) := by
  obtain ⟨i, hi, hz0, hz1, hz2⟩ := info_parts hi
  have hm' : (n : Int) ≤ 9223372036854775807 := by simp [maxLen] at hm; omega
  have hb' : (i.bytes : Int) * (n : Int) ≤ 281474976710656 := by
    rw [hz2]
    have h : ((bytes * n : Nat) : Int) ≤ 281474976710656 := by omega
    rwa [Int.natCast_mul] at h
  have hr := run_make (P := P) w t e i z ht hi hz0 kl kc n n (by omega) (Int.le_refl _) hb' hm'
  rw [hr, hz, hz1, Nat.mul_one, Int.toNat_natCast, madeCells_one]
/-- a row that is turned up to k -/
def turnTo (V Z : Nat → Value) (k n : Nat) : List Value := (List.range n).map fun i => if i < k then V i else Z i
theorem length_turnTo (V Z : Nat → Value) (k n : Nat) : (turnTo V Z k n).length = n := by simp [turnTo]
theorem turnTo_set (V Z : Nat → Value) (k n : Nat) : (turnTo V Z k n).set k (V k) = turnTo V Z (k + 1) n := by
  apply List.ext_getElem
  · simp [turnTo]
  · intro i h1 h2
    simp only [turnTo, List.getElem_set, List.getElem_map, List.getElem_range]
    by_cases hk : k = i
    · subst hk; simp
    · rw [if_neg hk]
      by_cases h3 : i < k
      · rw [if_pos h3, if_pos (by omega)]
      · rw [if_neg h3, if_neg (by omega)]
theorem turnTo_same (V Z : Nat → Value) (k n : Nat) (h : V k = Z k) : turnTo V Z k n = turnTo V Z (k + 1) n := by
  apply List.map_congr_left
  intro i _
  by_cases hk : i = k
  · subst hk; simp [h]
  · by_cases h3 : i < k
    · rw [if_pos h3, if_pos (by omega)]
    · rw [if_neg h3, if_neg (by omega)]
theorem turnTo_get (V Z : Nat → Value) (k n i : Nat) (hi : i < n) : (turnTo V Z k n)[i]'(by rw [length_turnTo]; exact hi) = if i < k then V i else Z i := by simp [turnTo]
theorem turnTo_zero (V Z : Nat → Value) (n : Nat) : turnTo V Z 0 n = (List.range n).map Z := by simp [turnTo]
theorem turnTo_full (V Z : Nat → Value) (n : Nat) : turnTo V Z n n = (List.range n).map V := by
  apply List.map_congr_left
  intro i hi
  rw [if_pos (List.mem_range.1 hi)]


end Go.Proofs.Ythdkgcmoagookaa
