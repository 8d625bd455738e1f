/-
  Words on slices of one-cell elements: what a slice reads as in a world, rows that are filled, append, conversion to a string.
-/
import Derived.WalkKit
import Derived.WalkSpells
import Derived.WalkLawsBesides
import Derived.Deep.QuietTactic
import Derived.BigQuiet
import Derived.Lib.Hide
import Derived.Deep.RegionHeld3
import Derived.Deep.AppendLies
namespace Go.Proofs.Ythdkgcmoagookaa
open Go.RowKit

/-- a byte as a value -/
def By (x : UInt8) : Value := .int .u8 (x.toNat : Int)

/-- the first cells behind a slice's address -/
def Cells (w : World) (oa : Option Addr) (cs : List Value) : Prop :=
  ∀ i, i < cs.length → ∃ b o, oa = some ⟨b, o, none⟩ ∧ w.cell? ⟨b, o + i, none⟩ = cs[i]?

theorem Cells.at' {w : World} {oa : Option Addr} {cs : List Value} (h : Cells w oa cs) {i : Nat} (hi : i < cs.length) :
    ∃ b o, oa = some ⟨b, o, none⟩ ∧ b < w.heap.size ∧ w.cell? ⟨b, o + i, none⟩ = some cs[i] := by
  obtain ⟨b, o, e, hc⟩ := h i hi
  rw [List.getElem?_eq_getElem hi] at hc
  exact ⟨b, o, e, World.block_lt_of_cell? w ⟨b, o + i, none⟩ hc, hc⟩

theorem Cells.below {w w' : World} {oa : Option Addr} {cs : List Value} {B : Nat} (h : Cells w oa cs) (hb : Below B w w') (hB : w.heap.size ≤ B) : Cells w' oa cs := by
  intro i hi
  obtain ⟨b, o, e, hlt, hc⟩ := h.at' hi
  refine ⟨b, o, e, ?_⟩
  rw [hb.cell (p := ⟨b, o + i, none⟩) (by simp; omega), hc, List.getElem?_eq_getElem hi]

theorem Cells.bytes {w : World} {oa : Option Addr} {l : List UInt8} (h : Cells w oa (l.map By)) {i : Nat} (hi : i < l.length) :
    ∃ b o, oa = some ⟨b, o, none⟩ ∧ b < w.heap.size ∧ w.cell? ⟨b, o + i, none⟩ = some (.int .u8 (l[i].toNat : Int)) := by
  obtain ⟨b, o, e, hlt, hc⟩ := h.at' (i := i) (by simpa using hi)
  exact ⟨b, o, e, hlt, by simpa [By] using hc⟩

theorem Cells.nil (w : World) (oa : Option Addr) : Cells w oa [] := fun i hi => by simp at hi


/-- a row that is filled up to k -/
def fillTo (V : Nat → Value) (z : Value) (k n : Nat) : List Value := (List.range n).map fun i => if i < k then V i else z

theorem length_fillTo (V : Nat → Value) (z : Value) (k n : Nat) : (fillTo V z k n).length = n := by simp [fillTo]

theorem fillTo_set (V : Nat → Value) (z : Value) (k n : Nat) : (fillTo V z k n).set k (V k) = fillTo V z (k + 1) n := by
  apply List.ext_getElem?
  intro i
  simp only [fillTo, List.getElem?_set, List.getElem?_map, List.length_map, List.length_range]
  by_cases hk : k = i
  · subst hk
    by_cases hn : k < n
    · simp [hn]
    · simp [hn]
  · simp only [if_neg hk]
    by_cases hn : i < n
    · simp only [List.getElem?_range hn, Option.map_some]
      by_cases h1 : i < k
      · rw [if_pos h1, if_pos (by omega)]
      · rw [if_neg h1, if_neg (by omega)]
    · simp [List.getElem?_eq_none (l := List.range n) (i := i) (by simp; omega)]

theorem fillTo_zero (V : Nat → Value) (z : Value) (n : Nat) : fillTo V z 0 n = List.replicate n z := by
  apply List.ext_getElem
  · simp [fillTo]
  · intro i h1 h2; simp [fillTo]

theorem fillTo_full (V : Nat → Value) (z : Value) (n : Nat) : fillTo V z n n = (List.range n).map V := by
  apply List.map_congr_left
  intro i hi
  rw [if_pos (List.mem_range.1 hi)]

theorem fillTo_get (V : Nat → Value) (z : Value) (k n i : Nat) (hi : i < n) : (fillTo V z k n)[i]? = some (if i < k then V i else z) := by
  simp [fillTo, List.getElem?_range hi]

theorem Cells.of_owns {w : World} {base e : Nat} {v : Value} {n : Nat} {xs : List Value} (h : w.ownsRow base e 1 v n xs) :
    ∃ oa c, v = .slice oa xs.length c ∧ n = xs.length ∧ Cells w oa xs := by
  have hl := h.1
  rcases h.2 with ⟨rfl, rfl⟩ | ⟨g, cap, cur, rfl, hb, hg, hnc, hcm, hcs, htake⟩
  · have : xs = [] := List.eq_nil_of_length_eq_zero (by simpa using hl)
    subst this
    exact ⟨none, 0, rfl, rfl, Cells.nil _ _⟩
  · have hn : n = xs.length := by omega
    refine ⟨some ⟨g, 0, none⟩, cap, by rw [← hn], hn, ?_⟩
    intro i hi
    refine ⟨g, 0, rfl, ?_⟩
    have := h.cellAt i (by omega)
    simpa using this

/-- what a call hands back: a slice of one-cell elements in memory of its own, nothing elder has turned -/
def RowOut (w : World) (cs : List Value) (e : Ending) (w' : World) : Prop :=
  ∃ oa c, e = .returned (.slice oa cs.length c) ∧ Cells w' oa cs ∧ Below w.heap.size w w'


theorem Cells.news {w : World} {ad : Addr} {cs : List Value} (h : Cells w (some ad) cs) : ∀ j u, cs[j]? = some u → w.cell? (ad.add j) = some u := by
  intro j u hu
  obtain ⟨hj, rfl⟩ := List.getElem?_eq_some_iff.1 hu
  obtain ⟨b, o, e, -, hc⟩ := h.at' hj
  obtain rfl : ad = ⟨b, o, none⟩ := by simpa using e
  have hadd : (⟨b, o, none⟩ : Addr).add j = ⟨b, o + j, none⟩ := by unfold Addr.add; split <;> simp_all
  rw [hadd, hc]

theorem By_oneCell (l : List UInt8) : ∀ u ∈ l.map By, u.oneCell' = true := by
  intro u hu
  obtain ⟨x, -, rfl⟩ := List.mem_map.1 hu
  rfl

theorem Cells.none_nil {w : World} {cs : List Value} (h : Cells w none cs) : cs = [] := by
  cases cs with
  | nil => rfl
  | cons x cs => obtain ⟨b, o, e, -⟩ := h 0 (by simp); cases e

theorem run_append_none' {P : Program} {w : World} (base : Nat) (t ty e : TypeId) (i : TypeInfo) (size : Nat) (ht : P.underlying t = some (.slice e)) (hi : P.info? e = some i)
    (v : Value) (n : Nat) (xs : List Value) (hown : w.ownsRow base e size v n xs) (c : Nat) :
    (Builtin.append_ #[t, t] ty #[v, .slice none 0 c]).run P w = .ok v w := by
  rcases hown.2 with ⟨rfl, rfl⟩ | ⟨g, cap, cur, rfl, _, _, hnc, _⟩
  · simp [Builtin.append_, run_underlying ht, sizeOf, typeInfo, hi, Builtin.lenOf, Builtin.firstCells]
  · simp [Builtin.append_, run_underlying ht, sizeOf, typeInfo, hi, Builtin.lenOf, Builtin.firstCells, hnc, storeCells]

/-- 'append' of one-cell elements that lie behind a slice, nil included, onto a row of the call's own -/
theorem wpList_append_cells {P : Program} {w : World} {ops : Array Oper} {rest : List Oper} {o : Oper} {a : Act} {Q : Exit → Act → World → Prop} (hgd : o.guard = none) (s x : Operand) (t : TypeId)
    (ho : o.op = .call { callee := .builtin .append, args := #[s, x], argTypes := #[t, t] })
    (base : Nat) (e : TypeId) (i : TypeInfo) (z : Value) (bytes : Nat) (ht : P.underlying t = some (.slice e)) (hi : P.info? e = some i) (hz : i.zero = some z)
    (hsize : i.size = 1) (hby : i.bytes = bytes) (hzs : z.cells.size = 1)
    (v : Value) (n : Nat) (xs : List Value) (hs : a.eval s = v) (hown : w.ownsRow base e 1 v n xs)
    (oa : Option Addr) (c : Nat) (cs : List Value) (hx : a.eval x = .slice oa cs.length c) (hcs : Cells w oa cs) (h1 : ∀ u ∈ cs, u.oneCell' = true)
    (h63 : n + cs.length ≤ maxLen) (hbytes : (n + cs.length) * bytes ≤ 140737488355328) (hbase : base ≤ w.heap.size)
    (h : ∀ v' w', w'.ownsRow base e 1 v' (n + cs.length) (xs ++ cs) → w.grownBy w' v.ownBlock → wpList P ops Q rest (a.put o.dst v') w') : wpList P ops Q (o :: rest) a w := by
  cases oa with
  | none =>
    obtain rfl := hcs.none_nil
    refine wpList_plain hgd fun K hK => ?_
    have hrun := run_append_none' (P := P) (w := w) base t o.type e i 1 ht hi v n xs hown c
    unfold Oper.wp
    simp [execOp, ho, resolve, invoke, builtin, hs, hx, hrun, Result.andThen]
    exact hK _ _ (h _ _ (by simpa using hown) ⟨rfl, rfl, rfl, Nat.le_refl _, fun _ _ _ => rfl⟩)
  | some ad =>
    exact wpList_append_own w hgd s x t ho base e i z 1 bytes ht hi hz hsize hby hzs (by omega) v n xs hs hown ad cs.length c cs hx (by simp) hcs.news h1 h63 hbytes hbase fun v' w' h2 h3 _ => h v' w' h2 h3

/-- what is known of a slice of integers that came in -/
def IsRow (k : IntKind) (w : World) (a : Option Addr) (len cap : Nat) (zs : List Int) : Prop :=
  (a = none ∧ len = 0 ∧ cap = 0 ∧ zs = []) ∨
  ∃ x, a = some x ∧ len ≤ cap ∧ cap ≤ maxLen ∧ zs.length = cap ∧ (∀ i, i < zs.length → w.cell? (x.add i) = some (.int k (zs.getD i 0))) ∧ ∀ n ∈ zs, (Lit.int k n).wf = true

theorem wf_u8_bounds {n : Int} (h : (Lit.int .u8 n).wf = true) : 0 ≤ n ∧ n ≤ 255 := by
  simpa [Lit.wf, IntKind.min, IntKind.max, IntKind.signed, IntKind.bits] using h

theorem spot_none {w : World} {x : Addr} {v : Value} (h : w.cell? x = some v) : x.spot = none := by
  unfold World.cell? at h
  split at h
  · split at h
    · cases h
    · rename_i hs; simpa using hs
  · cases h

theorem cells_of_isRow {k : IntKind} {w : World} {a : Option Addr} {len cap : Nat} {zs : List Int} (h : IsRow k w a len cap zs) :
    len ≤ cap ∧ cap ≤ maxLen ∧ (zs.take len).length = len ∧ Cells w a ((zs.take len).map (Value.int k)) ∧ ∀ n ∈ zs, (Lit.int k n).wf = true := by
  rcases h with ⟨rfl, rfl, rfl, rfl⟩ | ⟨x, rfl, hl, hm, hz, hc, hw⟩
  · exact ⟨Nat.le_refl _, by simp [maxLen], rfl, Cells.nil _ _, by simp⟩
  · refine ⟨hl, hm, by rw [List.length_take]; omega, fun i hi => ?_, hw⟩
    simp only [List.length_map, List.length_take] at hi
    have h0 := hc 0 (by omega)
    have hs : x.spot = none := by
      have e : x.add 0 = x := by simp [Addr.add]
      rw [e] at h0; exact spot_none h0
    obtain ⟨b, o, s⟩ := x
    simp only at hs; subst hs
    refine ⟨b, o, rfl, ?_⟩
    have h1 := hc i (by omega)
    have hadd : (⟨b, o, none⟩ : Addr).add i = ⟨b, o + i, none⟩ := by unfold Addr.add; split <;> simp_all
    rw [hadd] at h1
    rw [h1, List.getElem?_map, List.getElem?_take, if_pos (by omega)]
    have : i < zs.length := by omega
    simp [List.getD, this]

theorem bytes_of_isRow {w : World} {a : Option Addr} {len cap : Nat} {zs : List Int} (h : IsRow .u8 w a len cap zs) :
    ∃ l : List UInt8, len ≤ cap ∧ cap ≤ maxLen ∧ len = l.length ∧ Cells w a (l.map By) := by
  obtain ⟨h1, h2, h3, h4, h5⟩ := cells_of_isRow h
  refine ⟨(zs.take len).map fun n => UInt8.ofNat n.toNat, h1, h2, by rw [List.length_map, h3], ?_⟩
  have e : ((zs.take len).map fun n => UInt8.ofNat n.toNat).map By = (zs.take len).map (Value.int .u8) := by
    rw [List.map_map]
    apply List.map_congr_left
    intro n hn
    obtain ⟨hb1, hb2⟩ := wf_u8_bounds (h5 n (List.mem_of_mem_take hn))
    simp only [Function.comp, By]
    congr 1
    simp
    omega
  rw [e]; exact h4
/-- a string of bytes -/
def str (l : List UInt8) : ByteArray := ⟨l.toArray⟩

theorem run_convert_cells {P : Program} (w : World) (src dst e : TypeId) (hs : P.underlying src = some (.slice e)) (he : P.underlying e = some (.int .u8)) (hd : P.underlying dst = some .string)
    (oa : Option Addr) (l : List UInt8) (n c : Nat) (hn : n = l.length) (h : Cells w oa (l.map By)) :
    (convert src dst (.slice oa n c)).run P w = .ok (.string (str l)) w := by
  subst hn
  cases oa with
  | none =>
    have : l = [] := by have := h.none_nil; simpa using this
    subst this
    exact run_convert_bytes_nil (P := P) w src e hs he _ _ dst hd
  | some ad =>
    by_cases hl : l = []
    · subst hl
      rw [run_convert_bytes_string w src dst e _ _ c hs he hd]
      have hx := run_convert_bytes_string (P := P) w src dst e (some ad) 0 c hs he hd
      simp [Conv.bytesToString, loadCells, loadCellsFrom]
      rfl
    · obtain ⟨b, o, e1, -⟩ := h.bytes (i := 0) (by cases l <;> simp_all)
      obtain rfl : ad = ⟨b, o, none⟩ := by simpa using e1
      rw [run_convert_bytes_arg (P := P) w src e hs he b o l.length c (l.map fun x => (x.toNat : Int)) (by simp) ?_ dst hd]
      · have e3 : (l.map fun x => (x.toNat : Int)).map (fun n => UInt8.ofNat n.toNat) = l := by
          rw [List.map_map]
          conv => rhs; rw [← List.map_id l]
          apply List.map_congr_left
          intro x _
          simp
        simp only [strOfNums, str, e3]
      · intro i hi
        obtain ⟨b', o', e2, -, hc⟩ := h.bytes hi
        simp at e2
        obtain ⟨rfl, rfl⟩ := e2
        rw [hc]; simp [List.getD, hi]

theorem Cells.of_block {w : World} {g : Nat} {cs : List Value} {e : TypeId} {fr : Nat × Nat} (h : w.heap[g]? = some (.cells cs.toArray e fr)) : Cells w (some ⟨g, 0, none⟩) cs := by
  intro i hi
  refine ⟨g, 0, rfl, ?_⟩
  rw [cell_of_row w g (0 + i) cs.toArray e fr h]
  simp

theorem heap_alloc_at (w : World) (o : Obj) (k : Nat) : (w.alloc o).heap[k]? = if k = w.heap.size then some o else w.heap[k]? := by
  by_cases h : k = w.heap.size
  · subst h; rw [if_pos rfl]; exact heap_alloc_new w o
  · rw [if_neg h]
    by_cases h2 : k < w.heap.size
    · exact heap_alloc_old w o h2
    · rw [Array.getElem?_eq_none (by simp; omega), Array.getElem?_eq_none (by omega)]

theorem Cells.new {w : World} {cs : List Value} {e : TypeId} {fr : Nat × Nat} : Cells (w.alloc (.cells cs.toArray e fr)) (some ⟨w.heap.size, 0, none⟩) cs := Cells.of_block (heap_alloc_new w _)
theorem Cells.alloc {w : World} {oa : Option Addr} {cs : List Value} (h : Cells w oa cs) (o : Obj) : Cells (w.alloc o) oa cs := h.below ((Below.refl w.heap.size w).alloc (Nat.le_refl _) _) (Nat.le_refl _)

theorem cells_lit {w : World} {oa : Option Addr} {l : List UInt8} {cs : List Value} (h : Cells w oa cs) (e : cs = l.map By) : Cells w oa (l.map By) := e ▸ h

theorem below_step {W w w' : World} (h : Below W.heap.size W w) (k : Below w.heap.size w w') : Below W.heap.size W w' := h.trans (k.mono h.size)
theorem below_drew (w : World) : Below w.heap.size w w.drew := (Below.refl _ _).drew

/-- a slice that reads as bytes -/
structure Reads (w : World) (oa : Option Addr) (n : Nat) (l : List UInt8) : Prop where
  len : n = l.length
  cells : Cells w oa (l.map By)

theorem Reads.below {w w' : World} {oa : Option Addr} {n : Nat} {l : List UInt8} (h : Reads w oa n l) (hb : Below w.heap.size w w') : Reads w' oa n l := ⟨h.len, h.cells.below hb (Nat.le_refl _)⟩

def BytesOut (w : World) (l : List UInt8) (e : Ending) (w' : World) : Prop :=
  ∃ oa n c, e = .returned (.slice oa n c) ∧ Reads w' oa n l ∧ Below w.heap.size w w'

theorem bytesOut_of {w : World} {l : List UInt8} {e : Ending} {w' : World} (h : RowOut w (l.map By) e w') : BytesOut w l e w' := by
  obtain ⟨oa, c, rfl, hcs, hb⟩ := h
  exact ⟨oa, _, c, rfl, ⟨by simp, hcs⟩, hb⟩

theorem later_convert {P : Program} {src dst e : TypeId} (H : Hid (P.underlying src = some (.slice e) ∧ P.underlying e = some (.int .u8) ∧ P.underlying dst = some .string)) {w : World} {oa : Option Addr} {n : Nat} {l : List UInt8} (c : Nat) (h : Reads w oa n l) :
    ∀ W, Below w.heap.size w W → (convert src dst (.slice oa n c)).run P W = .ok (.string (str l)) W :=
  fun W hb => run_convert_cells W src dst e H.out.1 H.out.2.1 H.out.2.2 oa l _ c h.len (h.cells.below hb (Nat.le_refl _))


theorem bits_xor_u8 (x y : UInt8) : bits .xor .u8 (x.toNat : Int) (y.toNat : Int) = ((x ^^^ y).toNat : Int) := by
  rw [u8_xor_nat _ _ x.toNat_lt y.toNat_lt, UInt8.toNat_xor]
theorem bits_or_u8 (x y : UInt8) : bits .or .u8 (x.toNat : Int) (y.toNat : Int) = ((x ||| y).toNat : Int) := by
  rw [u8_or_nat _ _ x.toNat_lt y.toNat_lt, UInt8.toNat_or]

end Go.Proofs.Ythdkgcmoagookaa
