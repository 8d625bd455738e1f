/-
  Elements of several cells in a row of the call's own that are written; rows as slices.
-/
import Derived.Test.YthdkgcmoagookaaCopy
import Derived.Test.YthdkgcmoagookaaApi
import Derived.Laws.OwnMore
namespace Go.Proofs.Ythdkgcmoagookaa
open Go.RowKit

theorem cell_later {w w' : World} {b o : Nat} {v : Value} (h : w.cell? ⟨b, o, none⟩ = some v) (hb : Below w.heap.size w w') : w'.cell? ⟨b, o, none⟩ = some v := by
  rw [hb.cell (p := ⟨b, o, none⟩) (World.block_lt_of_cell? w ⟨b, o, none⟩ h), h]
theorem strne {a b : ByteArray} (h : ¬ a = b) : (a.toList == b.toList) = false := by
  rw [beq_eq_false_iff_ne, ByteArray.toList_eq, ByteArray.toList_eq]
  intro e; apply h; cases a; cases b; simpa using e
theorem strbeq (a b : ByteArray) : (a.toList == b.toList) = decide (a = b) := by
  by_cases h : a = b
  · subst h; simp
  · rw [strne h]; simp [h]
theorem grown_trans {w w1 w2 : World} {r : Option Nat} (h1 : w.grownBy w1 r) (h2 : w1.grownBy w2 r) : w.grownBy w2 r :=
  ⟨h2.os.trans h1.os, h2.tape.trans h1.tape, h2.output.trans h1.output, Nat.le_trans h1.size h2.size, fun k hk hne => (h2.block k (Nat.lt_of_lt_of_le hk h1.size) hne).trans (h1.block k hk hne)⟩

theorem list_put {α : Type} (xs vs : List α) (o : Nat) (v : α) (h : o + (v :: vs).length ≤ xs.length) :
    (xs.set o v).take (o + 1) ++ vs ++ (xs.set o v).drop (o + 1 + vs.length) = xs.take o ++ (v :: vs) ++ xs.drop (o + (v :: vs).length) := by
  simp only [List.length_cons] at h ⊢
  have h1 : (xs.set o v).take (o + 1) = xs.take o ++ [v] := by
    rw [List.take_succ_eq_append_getElem (by simp; omega), List.getElem_set_self, List.take_set_of_le (Nat.le_refl _)]
  have h2 : (xs.set o v).drop (o + 1 + vs.length) = xs.drop (o + (vs.length + 1)) := by
    rw [List.drop_set_of_lt (by omega)]; congr 1; omega
  rw [h1, h2]; simp

theorem Own.setCells {base e size g cap n : Nat} : ∀ (vs : List Value) (o : Nat) (w : World) (xs : List Value), Own w base e size (.slice (some ⟨g, 0, none⟩) n cap) n xs → o + vs.length ≤ xs.length →
    Own (w.setCells g o vs) base e size (.slice (some ⟨g, 0, none⟩) n cap) n (xs.take o ++ vs ++ xs.drop (o + vs.length))
  | [], o, w, xs, h, hl => by simpa [World.setCells] using h
  | v :: vs, o, w, xs, h, hl => by
    have h1 : Own (w.setCell ⟨g, o, none⟩ v) base e size (.slice (some ⟨g, 0, none⟩) n cap) n (xs.set o v) := ⟨(h.row.stored o v).1⟩
    have h2 := Own.setCells vs (o + 1) _ _ h1 (by simp at hl ⊢; omega)
    rw [World.setCells]
    rwa [list_put xs vs o v hl] at h2

theorem Own.there {w : World} {base e size g cap n : Nat} {xs : List Value} (h : Own w base e size (.slice (some ⟨g, 0, none⟩) n cap) n xs) {o m : Nat} (hl : o + m ≤ xs.length) : w.there g o m := fun j hj => by
  have hlen := h.len
  refine ⟨?_, ?_⟩
  · rw [h.row.cellAt (o + j) (by omega), List.getElem?_eq_getElem (by omega)]; rfl
  · exact h.row.frozenAt (o + j)

section
variable {P : Program} {w : World} {ops : Array Oper} {rest : List Oper} {op : Oper} {a : Act} {K : Act → World → Prop} {Q : Exit → Act → World → Prop}
/-- an element of a row of the call's own is written -/
theorem wp_store_own {ty : TypeId} {x y : Operand} (ho : op.op = .store ty x y) {base e size g cap n o : Nat} {xs vs : List Value} (hO : Own w base e size (.slice (some ⟨g, 0, none⟩) n cap) n xs) (hx : a.eval x = .pointer (some ⟨g, o, none⟩)) (hy : a.eval y = .agg vs.toArray)
    (hT : RowTy P ty vs.length) (hl : o + vs.length ≤ xs.length) (h1 : ∀ v ∈ vs, v.oneCell' = true)
    (h : ∀ w', Own w' base e size (.slice (some ⟨g, 0, none⟩) n cap) n (xs.take o ++ vs ++ xs.drop (o + vs.length)) → w.grownBy w' (some g) → K (a.put op.dst undef) w') : op.wp P a w K Q := by
  refine wp_store_mid ty x y ho g o vs.toArray hx hy (by simpa using hO.there hl) (by simpa using hT.size) (all_oneCell_toArray h1) (h _ ?_ ?_)
  · exact hO.setCells vs o w xs hl
  · exact setCells_grown g _ o w
theorem wpList_store_own (hgd : op.guard = none) {ty : TypeId} {x y : Operand} (ho : op.op = .store ty x y) {base e size g cap n o : Nat} {xs vs : List Value} (hO : Own w base e size (.slice (some ⟨g, 0, none⟩) n cap) n xs) (hx : a.eval x = .pointer (some ⟨g, o, none⟩)) (hy : a.eval y = .agg vs.toArray)
    (hT : RowTy P ty vs.length) (hl : o + vs.length ≤ xs.length) (h1 : ∀ v ∈ vs, v.oneCell' = true)
    (h : ∀ w', Own w' base e size (.slice (some ⟨g, 0, none⟩) n cap) n (xs.take o ++ vs ++ xs.drop (o + vs.length)) → w.grownBy w' (some g) → wpList P ops Q rest (a.put op.dst undef) w') : wpList P ops Q (op :: rest) a w :=
  wpList_plain hgd fun _ hK => wp_store_own ho hO hx hy hT hl h1 fun w' h2 h3 => hK _ _ (h w' h2 h3)
end

theorem flat_set {α : Type} {f : α → List Value} {k : Nat} (hf : ∀ a, (f a).length = k) (l : List α) (i : Nat) (a : α) (hi : i < l.length) :
    (l.flatMap f).take (i * k) ++ f a ++ (l.flatMap f).drop (i * k + k) = (l.set i a).flatMap f := by
  induction l generalizing i with
  | nil => simp at hi
  | cons b l ih =>
    have hb := hf b
    cases i with
    | zero =>
      rw [List.set_cons_zero, List.flatMap_cons, List.flatMap_cons, Nat.zero_mul, List.take_zero, List.nil_append, Nat.zero_add, List.drop_left' hb]
    | succ i =>
      have := ih i (by simpa using hi)
      rw [List.set_cons_succ, List.flatMap_cons, List.flatMap_cons, ← this]
      have e1 : (i + 1) * k = (f b).length + i * k := by rw [hb, Nat.add_mul]; omega
      rw [e1, List.take_length_add_append, Nat.add_assoc, List.drop_length_add_append]
      simp

/-- a slice whose elements are these -/
structure Rws {α : Type} (f : α → List Value) (w : World) (oa : Option Addr) (n c : Nat) (l : List α) : Prop where
  rows : RowsOf f w oa n l
  le : n ≤ c
  cap : c ≤ maxLen
theorem Rws.below {α : Type} {f : α → List Value} {w w' : World} {oa : Option Addr} {n c : Nat} {l : List α} (h : Rws f w oa n c l) (hb : Below w.heap.size w w') : Rws f w' oa n c l := ⟨h.rows.below hb, h.le, h.cap⟩
theorem Rws.nil {α : Type} (f : α → List Value) (w : World) : Rws f w none 0 0 [] := ⟨RowsOf.nil _ _, Nat.le_refl _, Nat.zero_le _⟩
theorem Own.rws {α : Type} {f : α → List Value} {w : World} {base e size : Nat} {v : Value} {n : Nat} {l : List α} (h : Own w base e size v n (l.flatMap f)) (hn : n = l.length) : ∃ oa c, v = .slice oa l.length c ∧ Rws f w oa l.length c l := by
  subst hn
  obtain ⟨oa, c, rfl, h1, h2, h3, -⟩ := h.cells
  exact ⟨oa, c, rfl, ⟨rfl, h3⟩, h1, h2⟩
theorem Rws.one {α : Type} {f : α → List Value} {w : World} {g : Nat} {x : α} (h : Blk w g (f x)) : Rws f w (some ⟨g, 0, none⟩) 1 1 [x] := ⟨⟨rfl, by simpa using h.cells⟩, Nat.le_refl _, by simp [maxLen]⟩
theorem Rws.two {α : Type} {f : α → List Value} {w : World} {g : Nat} {x y : α} (h : Blk w g (f x ++ f y)) : Rws f w (some ⟨g, 0, none⟩) 2 2 [x, y] := ⟨⟨rfl, by simpa using h.cells⟩, Nat.le_refl _, by simp [maxLen]⟩
theorem Cells.pre {w : World} {oa : Option Addr} {cs ds : List Value} (h : Cells w oa (cs ++ ds)) : Cells w oa cs := fun i hi => by
  obtain ⟨b, o, e, hc⟩ := h i (by simp; omega)
  exact ⟨b, o, e, by rw [hc, List.getElem?_append_left hi]⟩
theorem split_flat {α : Type} (f : α → List Value) (l : List α) (k : Nat) : l.flatMap f = (l.take k).flatMap f ++ (l.drop k).flatMap f := by
  rw [← List.flatMap_append, List.take_append_drop]
theorem Rws.take {α : Type} {f : α → List Value} {w : World} {oa : Option Addr} {n c : Nat} {l : List α} (h : Rws f w oa n c l) {k : Nat} (hk : k ≤ l.length) : Rws f w oa k c (l.take k) :=
  ⟨⟨by simp; omega, by
    have := h.rows.cells
    rw [split_flat f l k] at this
    exact this.pre⟩, by have := h.le; have := h.rows.len; omega, h.cap⟩
end Go.Proofs.Ythdkgcmoagookaa
