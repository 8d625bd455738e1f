/-
  Rows of the call's own: appended to, read, handed back; whatever the elements' size.
-/
import Derived.Test.YthdkgcmoagookaaBlk
import Derived.Test.YthdkgcmoagookaaEager
import Derived.Lib.ConvBytes
import Derived.Deep.AppendLies
namespace Go.Proofs.Ythdkgcmoagookaa
open Go.RowKit

/-- what an append has to know of an element's type -/
structure Elem (P : Program) (t e : TypeId) (size bytes : Nat) : Prop where
  under : P.underlying t = some (.slice e)
  info : ∃ i z, P.info? e = some i ∧ i.zero = some z ∧ i.size = size ∧ i.bytes = bytes ∧ z.cells.size = size
  pos : 0 < size

theorem Elem.of {P : Program} {t e : TypeId} {size bytes : Nat} (z : Value) (h1 : P.underlying t = some (.slice e)) (h2 : (P.info? e).map (fun i => (i.zero, i.size, i.bytes)) = some (some z, size, bytes))
    (h3 : z.cells.size = size) (h4 : 0 < size) : Elem P t e size bytes := by
  obtain ⟨i, hi, hz0, hz1, hz2⟩ := info_parts h2
  exact ⟨h1, ⟨i, z, hi, hz0, hz1, hz2, h3⟩, h4⟩

/-- a slice v of the call's own (its block at base or behind it) that holds the cells xs, n elements of so many cells -/
structure Own (w : World) (base : Nat) (e : TypeId) (size : Nat) (v : Value) (n : Nat) (xs : List Value) : Prop where
  row : w.ownsRow base e size v n xs

section
variable {w w' : World} {base : Nat} {e : TypeId} {size : Nat} {v : Value} {n : Nat} {xs : List Value}

theorem Own.nil (w : World) (base : Nat) (e : TypeId) (size : Nat) : Own w base e size (.slice none 0 0) 0 [] := ⟨World.ownsRow_nil w base e size⟩
theorem Own.len (h : Own w base e size v n xs) : xs.length = n * size := h.row.1
theorem Own.mono (h : Own w base e size v n xs) {base' : Nat} (hb : base' ≤ base) : Own w base' e size v n xs := by
  obtain ⟨h1, h2⟩ := h.row
  refine ⟨h1, ?_⟩
  rcases h2 with h2 | ⟨g, cap, cur, hv, hg, r⟩
  · exact .inl h2
  · exact .inr ⟨g, cap, cur, hv, by omega, r⟩
theorem Own.later (h : Own w base e size v n xs) (hb : Below w.heap.size w w') : Own w' base e size v n xs := by
  obtain ⟨h1, h2⟩ := h.row
  refine ⟨h1, ?_⟩
  rcases h2 with h2 | ⟨g, cap, cur, hv, hg, hh, r⟩
  · exact .inl h2
  · have hlt : g < w.heap.size := by
      by_cases hl : g < w.heap.size
      · exact hl
      · rw [Array.getElem?_eq_none (by omega)] at hh; cases hh
    exact .inr ⟨g, cap, cur, hv, hg, by rw [hb.block g hlt]; exact hh, r⟩
theorem Own.drew (h : Own w base e size v n xs) : Own w.drew base e size v n xs := h.later (below_drew w)
theorem Own.drewN (h : Own w base e size v n xs) (m : Nat) : Own (w.drewN m) base e size v n xs := h.later (Below.drewN' (Below.refl _ _) m)
theorem Own.alloc (h : Own w base e size v n xs) (o : Obj) : Own (w.alloc o) base e size v n xs := h.later ((Below.refl _ _).alloc (Nat.le_refl _) o)
/-- a store below its blocks -/
theorem Own.setBelow (h : Own w base e size v n xs) {a : Addr} (ha : a.block < base) (u : Value) : Own (w.setCell a u) base e size v n xs := ⟨ownsRow_setCell_below h.row ha u⟩
theorem Own.setOther (h : Own w base e size v n xs) {a : Addr} (ha : v.ownBlock ≠ some a.block) (u : Value) : Own (w.setCell a u) base e size v n xs := ⟨ownsRow_setCell_other h.row ha u⟩

/-- as a slice that reads -/
theorem Own.cells (h : Own w base e size v n xs) : ∃ oa c, v = .slice oa n c ∧ n ≤ c ∧ c ≤ maxLen ∧ Cells w oa xs ∧ (oa = none → c = 0) := by
  rcases h.row.2 with ⟨rfl, rfl⟩ | ⟨g, cap, cur, rfl, hb, hg, hnc, hcm, hcs, htake⟩
  · have : xs = [] := List.eq_nil_of_length_eq_zero (by simpa using h.len)
    subst this
    exact ⟨none, 0, rfl, Nat.le_refl _, Nat.zero_le _, Cells.nil _ _, fun _ => rfl⟩
  · refine ⟨some ⟨g, 0, none⟩, cap, rfl, hnc, hcm, ?_, by simp⟩
    intro i hi
    refine ⟨g, 0, rfl, ?_⟩
    have := h.row.cellAt i (by have := h.len; omega)
    simpa using this

/-- as a block, where it has an element -/
theorem Own.blk (h : Own w base e size v n xs) (hn : 0 < n) : ∃ g c, v = .slice (some ⟨g, 0, none⟩) n c ∧ n ≤ c ∧ c ≤ maxLen ∧ base ≤ g ∧ Blk w g xs := by
  rcases h.row.2 with ⟨rfl, rfl⟩ | ⟨g, cap, cur, rfl, hb, hg, hnc, hcm, hcs, htake⟩
  · omega
  · refine ⟨g, cap, rfl, hnc, hcm, hb, ⟨(h.row.lt g rfl).2, fun i hi => h.row.cellAt i (by have := h.len; omega), fun i => h.row.frozenAt i⟩⟩

theorem Own.ge {a : Addr} {m c : Nat} (h : Own w base e size (.slice (some a) m c) n xs) : base ≤ a.block := (h.row.lt a.block rfl).1

theorem Blk.grown {b : Nat} {cs : List Value} (h : Blk w b cs) {row : Option Nat} (hg : w.grownBy w' row) (hne : row ≠ some b) : Blk w' b cs := by
  have hb : w'.heap[b]? = w.heap[b]? := hg.block b h.lt (fun e => hne e.symm)
  exact ⟨Nat.lt_of_lt_of_le h.lt hg.size, fun i hi => (World.cell?_of_block hb).trans (h.cell i hi), fun i => (World.frozen?_of_block hb).trans (h.froz i)⟩

/-- a row of the call's own is changed: all blocks below base are as they were -/
theorem Own.below {B : Nat} {w0 : World} {row : Value} {n' : Nat} {xs' : List Value} (h : Own w base e size row n' xs') (hg : w.grownBy w' row.ownBlock) (hB : Below B w0 w) (hle : B ≤ base) (hsz : base ≤ w.heap.size) : Below B w0 w' :=
  hB.grown hg (Nat.le_trans hle hsz) (fun k hk => Nat.le_trans hle (h.row.lt k hk).1)
theorem Own.blkKept {b : Nat} {cs : List Value} (h : Own w base e size v n xs) (hg : w.grownBy w' v.ownBlock) (hb : Blk w b cs) (hlt : b < base) : Blk w' b cs :=
  hb.grown hg (fun e => by have := (h.row.lt b e).1; omega)
theorem Own.cellsKept {oa : Option Addr} {cs : List Value} (h : Own w base e size v n xs) (hg : w.grownBy w' v.ownBlock) (hc : Cells w oa cs) (hlt : ∀ a, oa = some a → a.block < base) : Cells w' oa cs := by
  intro i hi
  obtain ⟨b, o, rfl, hb, hcell⟩ := hc.at' hi
  refine ⟨b, o, rfl, ?_⟩
  have hne : some b ≠ v.ownBlock := fun e => by have := (h.row.lt b e.symm).1; have := hlt _ rfl; simp at this; omega
  rw [World.cell?_of_block (w := w) (a := ⟨b, o + i, none⟩) (hg.block b hb hne), hcell, List.getElem?_eq_getElem hi]
end

/-- the walk stands still -/
structure Stop (p : Prop) : Prop where
  out : p
theorem stop_append {P : Program} {ops : Array Oper} {Q : Exit → Act → World → Prop} {o : Oper} {rest : List Oper} {a : Act} {w : World} {s x : Operand} {t u : TypeId}
    (_ : o.op = .call { callee := .builtin .append, args := #[s, x], argTypes := #[t, u] }) (h : Stop (wpList P ops Q (o :: rest) a w)) : wpList P ops Q (o :: rest) a w := h.out

section
variable {P : Program} {w : World} {ops : Array Oper} {rest : List Oper} {o : Oper} {a : Act} {K : Act → World → Prop} {Q : Exit → Act → World → Prop}

/-- 'append' onto a row of the call's own, of elements that lie behind a slice, nil included -/
theorem wp_app {s x : Operand} {t e : TypeId} {size bytes : Nat} (E : Elem P t e size bytes)
    (ho : o.op = .call { callee := .builtin .append, args := #[s, x], argTypes := #[t, t] })
    {base : Nat} {v : Value} {n : Nat} {xs : List Value} (hs : a.eval s = v) (hown : Own w base e size v n xs)
    {oa : Option Addr} {m c : Nat} {cs : List Value} (hx : a.eval x = .slice oa m c) (hm : cs.length = m * size) (hcs : Cells w oa cs) (h1 : ∀ u ∈ cs, u.oneCell' = true)
    (h63 : n + m ≤ maxLen) (hbytes : (n + m) * bytes ≤ 140737488355328) (hbase : base ≤ w.heap.size)
    (h : ∀ v' w', Own w' base e size v' (n + m) (xs ++ cs) → w.grownBy w' v.ownBlock → K (a.put o.dst v') w') : o.wp P a w K Q := by
  obtain ⟨i, z, hi, hz, hsize, hby, hzs⟩ := E.info
  cases oa with
  | none =>
    obtain rfl := hcs.none_nil
    have hm0 : m = 0 := by
      have := E.pos
      rcases Nat.eq_zero_or_pos m with h0 | h0
      · exact h0
      · have := Nat.mul_pos h0 E.pos; simp at hm; omega
    subst hm0
    have hrun := run_append_none' (P := P) (w := w) base t o.type e i size E.under hi v n xs hown.row c
    unfold Oper.wp
    simp [execOp, ho, resolve, invoke, builtin, hs, hx, hrun, Result.andThen]
    exact h _ _ (by simpa using hown) ⟨rfl, rfl, rfl, Nat.le_refl _, fun _ _ _ => rfl⟩
  | some ad =>
    exact wp_append_own w s x t ho base e i z size bytes E.under hi hz hsize hby hzs E.pos v n xs hs hown.row ad m c cs hx hm hcs.news h1 h63 hbytes hbase fun v' w' h2 h3 _ => h v' w' ⟨h2⟩ h3

/-- the same, and where the row lies now -/
theorem wp_app_at {s x : Operand} {t e : TypeId} {size bytes : Nat} (E : Elem P t e size bytes)
    (ho : o.op = .call { callee := .builtin .append, args := #[s, x], argTypes := #[t, t] })
    {base : Nat} {v : Value} {n : Nat} {xs : List Value} (hs : a.eval s = v) (hown : Own w base e size v n xs)
    {ad : Addr} {m c : Nat} {cs : List Value} (hx : a.eval x = .slice (some ad) m c) (hm : cs.length = m * size) (hcs : Cells w (some ad) cs) (h1 : ∀ u ∈ cs, u.oneCell' = true) (hpos : 0 < m)
    (h63 : n + m ≤ maxLen) (hbytes : (n + m) * bytes ≤ 140737488355328) (hbase : base ≤ w.heap.size)
    (h : ∀ g cap w', Own w' base e size (.slice (some ⟨g, 0, none⟩) (n + m) cap) (n + m) (xs ++ cs) → w.grownBy w' v.ownBlock → (v.ownBlock = some g ∨ g = w.heap.size) → K (a.put o.dst (.slice (some ⟨g, 0, none⟩) (n + m) cap)) w') : o.wp P a w K Q := by
  obtain ⟨i, z, hi, hz, hsize, hby, hzs⟩ := E.info
  exact wp_append_lies w s x t ho base e i z size bytes E.under hi hz hsize hby hzs E.pos v n xs hs hown.row ad m c cs hx hm hcs.news h1 hpos h63 hbytes hbase _ rfl fun g cap w' h2 h3 h4 _ => h g cap w' ⟨h2⟩ h3 h4

theorem wpList_app {s x : Operand} {t e : TypeId} {size bytes : Nat} (E : Elem P t e size bytes) (hgd : o.guard = none)
    (ho : o.op = .call { callee := .builtin .append, args := #[s, x], argTypes := #[t, t] })
    {base : Nat} {v : Value} {n : Nat} {xs : List Value} (hs : a.eval s = v) (hown : Own w base e size v n xs)
    {oa : Option Addr} {m c : Nat} {cs : List Value} (hx : a.eval x = .slice oa m c) (hm : cs.length = m * size) (hcs : Cells w oa cs) (h1 : ∀ u ∈ cs, u.oneCell' = true)
    (h63 : n + m ≤ maxLen) (hbytes : (n + m) * bytes ≤ 140737488355328) (hbase : base ≤ w.heap.size)
    (h : ∀ v' w', Own w' base e size v' (n + m) (xs ++ cs) → w.grownBy w' v.ownBlock → wpList P ops Q rest (a.put o.dst v') w') : wpList P ops Q (o :: rest) a w :=
  wpList_plain hgd fun _ hK => wp_app E ho hs hown hx hm hcs h1 h63 hbytes hbase fun v' w' h2 h3 => hK _ _ (h v' w' h2 h3)
end

/-- bytes of a text: a new row -/
theorem run_bytes_of {P : Program} (w : World) (src dst e : TypeId) (s : ByteArray) (hu : P.underlying src = some .string) (hd : P.underlying dst = some (.slice e)) (he : P.underlying e = some (.int .u8)) (hm : s.size ≤ maxLen) :
    ∃ c w', (convert src dst (.string s)).run P w = .ok (.slice (some ⟨w.heap.size, 0, none⟩) s.size c) w' ∧ Reads w' (some ⟨w.heap.size, 0, none⟩) s.size s.data.toList ∧ s.size ≤ c ∧ c ≤ maxLen ∧ Below w.heap.size w w' := by
  refine ⟨grownCap w s.size 0 e, Lib.bytesWorld w e s, Lib.run_convert_string_bytes w src dst e s hu hd he, ⟨rfl, fun i hi => ⟨w.heap.size, 0, rfl, ?_⟩⟩, grownCap_ge w s.size 0 e, grownCap_le_maxLen w s.size 0 e hm, ⟨rfl, rfl, rfl, by rw [Lib.bytesWorld_size]; omega, fun k hk => Lib.bytesWorld_at_old w e s k hk⟩⟩
  have hi2 : i < s.data.size := by
    rw [List.length_map, Array.length_toList] at hi; exact hi
  rw [Nat.zero_add, Lib.bytesWorld_cell w e s i hi2]
  have h1 : s.data[i]? = some s.data[i] := Array.getElem?_eq_getElem hi2
  simp [List.getD, h1, By]

/-- a slice's conversion to bytes: its row is marked, and reads as it did -/
theorem run_convert_same {P : Program} (w : World) (t e : TypeId) (cs : List Value) (n : Nat) (ht : P.underlying t = some (.slice e)) (he : P.underlying e = some (.int .u8)) :
    (convert t t (.slice (some ⟨w.heap.size, 0, none⟩) n n)).run P (w.alloc (.cells cs.toArray e)) = .ok (.slice (some ⟨w.heap.size, 0, none⟩) n n) (w.alloc (.cells cs.toArray e (cs.length, cs.length + 1))) := by
  have hsh : (w.alloc (.cells cs.toArray e)).shape? w.heap.size = some (e, cs.length) := by
    simp [World.shape?, World.alloc, -World.alloc_eq]
  have hfr : (w.alloc (.cells cs.toArray e)).freeze ⟨w.heap.size, cs.length, none⟩ 1 = w.alloc (.cells cs.toArray e (cs.length, cs.length + 1)) := by
    simp only [World.freeze, World.alloc]
    rw [if_neg (by decide)]
    congr 1
    apply Array.ext
    · simp
    · intro i h1 h2
      simp only [Array.getElem_modify, Array.getElem_push]
      by_cases h : w.heap.size = i
      · subst h; simp
      · have hi : i < w.heap.size := by simp at h1; omega
        simp [h, hi]
  simp [convert, run_underlying ht, run_underlying he, markStringish, hsh, hfr, Result.andThen]

/-- the slice that is written out -/
theorem Own.lit (w : World) (cs : List Value) (e : TypeId) (size n : Nat) (hm : n ≤ maxLen) (hs : cs.length = n * size) (base : Nat) (hb : base ≤ w.heap.size) :
    Own (w.alloc (.cells cs.toArray e)) base e size (.slice (some ⟨w.heap.size, 0, none⟩) n n) n cs := by
  have := World.ownsRow_lit (base := base) (e := e) (size := size) w cs.toArray n hb hm (by simpa using hs)
  exact ⟨by simpa using this⟩
end Go.Proofs.Ythdkgcmoagookaa
