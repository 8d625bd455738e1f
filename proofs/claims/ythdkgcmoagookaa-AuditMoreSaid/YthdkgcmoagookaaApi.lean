/-
  Entries and peers as data, and slices of structs: what they read as in a world.
-/
import Derived.Test.YthdkgcmoagookaaBase
namespace Go.Proofs.Ythdkgcmoagookaa
open Go.RowKit

/-- a slice whose elements take so many cells each -/
structure RowsOf {α : Type} (f : α → List Value) (w : World) (oa : Option Addr) (n : Nat) (l : List α) : Prop where
  len : n = l.length
  cells : Cells w oa (l.flatMap f)

section
variable {α : Type} {f : α → List Value} {w w' : World} {oa : Option Addr} {n k : Nat} {l : List α}

theorem RowsOf.below (h : RowsOf f w oa n l) (hb : Below w.heap.size w w') : RowsOf f w' oa n l := ⟨h.len, h.cells.below hb (Nat.le_refl _)⟩
theorem RowsOf.drewN (h : RowsOf f w oa n l) (m : Nat) : RowsOf f (w.drewN m) oa n l := ⟨h.len, h.cells⟩
theorem RowsOf.nil (w : World) (oa : Option Addr) : RowsOf f w oa 0 [] := ⟨rfl, Cells.nil _ _⟩

theorem flat_length (hf : ∀ a, (f a).length = k) (l : List α) : (l.flatMap f).length = l.length * k := by
  induction l with
  | nil => simp
  | cons a l ih => simp [hf, ih, Nat.add_mul, Nat.add_comm]

theorem flat_get (hf : ∀ a, (f a).length = k) : ∀ (l : List α) (i j : Nat) (hi : i < l.length), j < k → (l.flatMap f)[i * k + j]? = (f l[i])[j]?
  | [], i, j, hi, _ => by simp at hi
  | a :: l, 0, j, _, hj => by
    rw [List.flatMap_cons, List.getElem?_append_left (by rw [hf]; omega)]; simp
  | a :: l, i + 1, j, hi, hj => by
    have e : (i + 1) * k + j = (f a).length + (i * k + j) := by rw [hf, Nat.add_mul]; omega
    rw [List.flatMap_cons, e, List.getElem?_append_right (by omega), Nat.add_sub_cancel_left, flat_get hf l i j (by simpa using hi) hj]
    simp

theorem RowsOf.elem (hf : ∀ a, (f a).length = k) (hk : 0 < k) (h : RowsOf f w oa n l) {i : Nat} (hi : i < l.length) :
    ∃ b o, oa = some ⟨b, o, none⟩ ∧ b < w.heap.size ∧ ∀ j, j < k → w.cell? ⟨b, o + i * k + j, none⟩ = (f l[i])[j]? := by
  have hlen := flat_length hf l
  have hle : i * k + k ≤ l.length * k := by
    rw [← Nat.succ_mul]; exact Nat.mul_le_mul_right k hi
  obtain ⟨b, o, e, hlt, -⟩ := h.cells.at' (i := i * k) (by omega)
  refine ⟨b, o, e, hlt, fun j hj => ?_⟩
  obtain ⟨b', o', e', hc⟩ := h.cells (i * k + j) (by omega)
  rw [e] at e'
  simp at e'
  obtain ⟨rfl, rfl⟩ := e'
  rw [Nat.add_assoc, hc, flat_get hf l i j hi hj]
end

/-- a certificate -/
structure Ent where
  name : ByteArray
  id : UInt64
  frm : Int
  til : Int
  idx : Int
  tag : ByteArray

def Ent.cells (e : Ent) : List Value := [.string e.name, .int .u64 (e.id.toNat : Int), .int .i64 e.frm, .int .i64 e.til, .int .i64 e.idx, .string e.tag]

/-- a peer -/
structure Peer where
  ent : Ent
  since : Int
  under : Int

def Peer.cells (p : Peer) : List Value := [.string p.ent.name, .int .u64 (p.ent.id.toNat : Int), .int .i64 p.ent.frm, .int .i64 p.ent.til, .int .i64 p.ent.idx, .string p.ent.tag, .int .i64 p.since, .int .i64 p.under]

theorem RowsOf.peer {w : World} {oa : Option Addr} {n : Nat} {l : List Peer} (h : RowsOf Peer.cells w oa n l) {i : Nat} (hi : i < l.length) :
    ∃ b o, oa = some ⟨b, o, none⟩ ∧ b < w.heap.size ∧ w.cell? ⟨b, o + i * 8, none⟩ = some (.string l[i].ent.name) ∧ w.cell? ⟨b, o + i * 8 + 1, none⟩ = some (.int .u64 (l[i].ent.id.toNat : Int)) ∧
      w.cell? ⟨b, o + i * 8 + 2, none⟩ = some (.int .i64 l[i].ent.frm) ∧ w.cell? ⟨b, o + i * 8 + 3, none⟩ = some (.int .i64 l[i].ent.til) ∧ w.cell? ⟨b, o + i * 8 + 4, none⟩ = some (.int .i64 l[i].ent.idx) ∧
      w.cell? ⟨b, o + i * 8 + 5, none⟩ = some (.string l[i].ent.tag) ∧ w.cell? ⟨b, o + i * 8 + 6, none⟩ = some (.int .i64 l[i].since) ∧ w.cell? ⟨b, o + i * 8 + 7, none⟩ = some (.int .i64 l[i].under) := by
  obtain ⟨b, o, e, hlt, hc⟩ := h.elem (k := 8) (fun _ => rfl) (by omega) hi
  exact ⟨b, o, e, hlt, hc 0 (by omega), hc 1 (by omega), hc 2 (by omega), hc 3 (by omega), hc 4 (by omega), hc 5 (by omega), hc 6 (by omega), hc 7 (by omega)⟩

end Go.Proofs.Ythdkgcmoagookaa
