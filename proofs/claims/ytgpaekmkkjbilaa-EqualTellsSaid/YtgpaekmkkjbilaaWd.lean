/-
  The walk of works (it returns true), and the contracts of all functions over slices that read as bytes.
-/
import Derived.Test.YtgpaekmkkjbilaaWb
import Derived.Test.YtgpaekmkkjbilaaWc
namespace Go.Proofs.Ytgpaekmkkjbilaa
open Go.RowKit
set_option maxHeartbeats 400000
set_option linter.unusedVariables false
set_option linter.unusedSimpArgs false

/-- a string of bytes -/
def str (l : List UInt8) : ByteArray := ⟨l.toArray⟩

theorem run_convert_cells {P : Program} (w : World) (src dst e : TypeId) (hs : P.underlying src = some (.slice e)) (he : P.underlying e = some (.int .u8)) (hd : P.underlying dst = some .string)
    (oa : Option Addr) (l : List UInt8) (n c : Nat) (hn : n = l.length) (h : Cells w oa (l.map By)) :
    (convert src dst (.slice oa n c)).run P w = .ok (.string (str l)) w := by
  subst hn
  cases oa with
  | none =>
    have : l = [] := by have := h.none_nil; simpa using this
    subst this
    exact run_convert_bytes_nil (P := P) w src e hs he _ _ dst hd
  | some ad =>
    by_cases hl : l = []
    · subst hl
      rw [run_convert_bytes_string w src dst e _ _ c hs he hd]
      have hx := run_convert_bytes_string (P := P) w src dst e (some ad) 0 c hs he hd
      simp [Conv.bytesToString, loadCells, loadCellsFrom]
      rfl
    · obtain ⟨b, o, e1, -⟩ := h.bytes (i := 0) (by cases l <;> simp_all)
      obtain rfl : ad = ⟨b, o, none⟩ := by simpa using e1
      rw [run_convert_bytes_arg (P := P) w src e hs he b o l.length c (l.map fun x => (x.toNat : Int)) (by simp) ?_ dst hd]
      · have e3 : (l.map fun x => (x.toNat : Int)).map (fun n => UInt8.ofNat n.toNat) = l := by
          rw [List.map_map]
          conv => rhs; rw [← List.map_id l]
          apply List.map_congr_left
          intro x _
          simp
        simp only [strOfNums, str, e3]
      · intro i hi
        obtain ⟨b', o', e2, -, hc⟩ := h.bytes hi
        simp at e2
        obtain ⟨rfl, rfl⟩ := e2
        rw [hc]; simp [List.getD, hi]

theorem Cells.of_block {w : World} {g : Nat} {cs : List Value} {e : TypeId} {fr : Nat × Nat} (h : w.heap[g]? = some (.cells cs.toArray e fr)) : Cells w (some ⟨g, 0, none⟩) cs := by
  intro i hi
  refine ⟨g, 0, rfl, ?_⟩
  rw [cell_of_row w g (0 + i) cs.toArray e fr h]
  simp

theorem heap_alloc_at (w : World) (o : Obj) (k : Nat) : (w.alloc o).heap[k]? = if k = w.heap.size then some o else w.heap[k]? := by
  by_cases h : k = w.heap.size
  · subst h; rw [if_pos rfl]; exact heap_alloc_new w o
  · rw [if_neg h]
    by_cases h2 : k < w.heap.size
    · exact heap_alloc_old w o h2
    · rw [Array.getElem?_eq_none (by simp; omega), Array.getElem?_eq_none (by omega)]

theorem Cells.new {w : World} {cs : List Value} {e : TypeId} {fr : Nat × Nat} : Cells (w.alloc (.cells cs.toArray e fr)) (some ⟨w.heap.size, 0, none⟩) cs := Cells.of_block (heap_alloc_new w _)
theorem Cells.alloc {w : World} {oa : Option Addr} {cs : List Value} (h : Cells w oa cs) (o : Obj) : Cells (w.alloc o) oa cs := h.below ((Below.refl w.heap.size w).alloc (Nat.le_refl _) _) (Nat.le_refl _)

theorem cells_lit {w : World} {oa : Option Addr} {l : List UInt8} {cs : List Value} (h : Cells w oa cs) (e : cs = l.map By) : Cells w oa (l.map By) := e ▸ h

theorem works_any (w : World) : Calls Try.prog 6 #[] w fun e w' => e = .returned (.bool true) ∧ Below w.heap.size w w' := by
  have hsz : ∀ (w : World) (o : Obj), (w.alloc o).heap.size = w.heap.size + 1 := fun w o => by simp
  have HSZ := Lib.hid hsz; clear hsz
  go_enter Try.func6, Try.ntmps6
  go_wp2_with fail
  have ha := cells_lit (l := [1, 2, 3]) ((Cells.new (w := w) (cs := [.int .u8 1, .int .u8 2, .int .u8 3]) (e := 5) (fr := (0, 0))).alloc (Obj.cells #[Value.int IntKind.u8 3, Value.int IntKind.u8 2] 5)) rfl
  have hb := cells_lit (l := [3, 2]) (Cells.new (w := w.alloc (Obj.cells #[Value.int IntKind.u8 1, Value.int IntKind.u8 2, Value.int IntKind.u8 3] 5)) (cs := [.int .u8 3, .int .u8 2]) (e := 5) (fr := (0, 0))) rfl
  rw [HSZ.out] at hb
  refine (xor_any _ _ [1, 2, 3] [3, 2] 3 2 _ ha hb (by decide) (by decide)).mono ?_
  rintro e w1 ⟨oa1, c1, rfl, hcs1, hb1⟩
  clear ha hb
  have hB1 : Below w.heap.size w w1 := (((Below.refl _ _).alloc (Nat.le_refl _) _).alloc (by simp) _).trans (hb1.mono (by simp; omega))
  have HB1 := Lib.hid hB1; clear hb1 hB1
  have hcv1 := run_convert_cells (P := Try.prog) w1 22 9 5 Try.underlying22 Try.underlying5 Try.underlying9 oa1 (xorL [1, 2, 3] [3, 2]) ((xorL [1, 2, 3] [3, 2]).map By).length c1 (by simp) hcs1
  rw [show str (xorL [1, 2, 3] [3, 2]) = ⟨#[2, 0]⟩ from rfl] at hcv1
  clear hcs1
  generalize ((xorL [1, 2, 3] [3, 2]).map By).length = n1 at *
  go_wp2_with fail
  clear hcv1
  refine (bytes_any none none [] [] 0 0 _ (Cells.nil _ _) (Cells.nil _ _) (by decide) (by decide)).mono ?_
  rintro e w2 ⟨rfl, hb2⟩
  rw [show decide (([] : List UInt8) = []) = true from rfl]
  have HB2 := Lib.hid (HB1.out.trans (hb2.mono HB1.out.size)); clear hb2 HB1
  go_wp2_with fail
  have ha := cells_lit (l := [0]) (Cells.new (w := w2) (cs := [.int .u8 0]) (e := 5) (fr := (0, 0))) rfl
  refine (zero_any (some ⟨w2.heap.size, 0, none⟩) [0] 1 _ ha (by decide)).mono ?_
  rintro e w3 ⟨rfl, rfl⟩
  rw [show zeroL [0] = true from rfl]
  clear ha
  go_wp2_with fail
  have ha := cells_lit (l := [1]) (Cells.new (w := w2.alloc (Obj.cells #[Value.int IntKind.u8 0] 5)) (cs := [.int .u8 1]) (e := 5) (fr := (0, 0))) rfl
  rw [HSZ.out] at ha
  refine (zero_any (some ⟨w2.heap.size + 1, 0, none⟩) [1] 1 _ ha (by decide)).mono ?_
  rintro e w3 ⟨rfl, rfl⟩
  rw [show zeroL [1] = false from rfl]
  clear ha
  go_wp2_with fail
  have ha := cells_lit (l := [7]) ((Cells.new (w := (w2.alloc (Obj.cells #[Value.int IntKind.u8 0] 5)).alloc (Obj.cells #[Value.int IntKind.u8 1] 5)) (cs := [.int .u8 7]) (e := 5) (fr := (0, 0))).alloc (Obj.cells #[Value.int IntKind.u8 8] 5)) rfl
  have hb := cells_lit (l := [8]) (Cells.new (w := ((w2.alloc (Obj.cells #[Value.int IntKind.u8 0] 5)).alloc (Obj.cells #[Value.int IntKind.u8 1] 5)).alloc (Obj.cells #[Value.int IntKind.u8 7] 5)) (cs := [.int .u8 8]) (e := 5) (fr := (0, 0))) rfl
  rw [HSZ.out, HSZ.out] at ha
  rw [HSZ.out, HSZ.out, HSZ.out] at hb
  refine (pick_any true _ _ [7] [8] 1 1 _ ha hb (by decide) (by decide)).mono ?_
  rintro e w4 ⟨oa4, c4, rfl, hcs4, hb4⟩
  clear ha hb
  have hB4 : Below w2.heap.size w2 w4 := (((((Below.refl _ _).alloc (Nat.le_refl _) _).alloc (by simp) _).alloc (by simp; omega) _).alloc (by simp; omega) _).trans (hb4.mono (by simp; omega))
  have HB4 := Lib.hid (HB2.out.trans (hB4.mono HB2.out.size)); clear hb4 hB4
  have hcv4 := run_convert_cells (P := Try.prog) w4 22 9 5 Try.underlying22 Try.underlying5 Try.underlying9 oa4 (pickL true [7] [8]) ((pickL true [7] [8]).map By).length c4 (by simp) hcs4
  rw [show str (pickL true [7] [8]) = ⟨#[7]⟩ from rfl] at hcv4
  clear hcs4
  generalize ((pickL true [7] [8]).map By).length = n4 at *
  go_wp2
  go_ret
  exact ⟨rfl, HB4.out⟩

theorem below_step {W w w' : World} (h : Below W.heap.size W w) (k : Below w.heap.size w w') : Below W.heap.size W w' := h.trans (k.mono h.size)
theorem below_drew (w : World) : Below w.heap.size w w.drew := (Below.refl _ _).drew

/-- a slice that reads as bytes -/
structure Reads (w : World) (oa : Option Addr) (n : Nat) (l : List UInt8) : Prop where
  len : n = l.length
  cells : Cells w oa (l.map By)

theorem Reads.below {w w' : World} {oa : Option Addr} {n : Nat} {l : List UInt8} (h : Reads w oa n l) (hb : Below w.heap.size w w') : Reads w' oa n l := ⟨h.len, h.cells.below hb (Nat.le_refl _)⟩

def BytesOut (w : World) (l : List UInt8) (e : Ending) (w' : World) : Prop :=
  ∃ oa n c, e = .returned (.slice oa n c) ∧ Reads w' oa n l ∧ Below w.heap.size w w'

theorem bytesOut_of {w : World} {l : List UInt8} {e : Ending} {w' : World} (h : RowOut w (l.map By) e w') : BytesOut w l e w' := by
  obtain ⟨oa, c, rfl, hcs, hb⟩ := h
  exact ⟨oa, _, c, rfl, ⟨by simp, hcs⟩, hb⟩

theorem later_convert {P : Program} {src dst e : TypeId} (H : Hid (P.underlying src = some (.slice e) ∧ P.underlying e = some (.int .u8) ∧ P.underlying dst = some .string)) {w : World} {oa : Option Addr} {n : Nat} {l : List UInt8} (c : Nat) (h : Reads w oa n l) :
    ∀ W, Below w.heap.size w W → (convert src dst (.slice oa n c)).run P W = .ok (.string (str l)) W :=
  fun W hb => run_convert_cells W src dst e H.out.1 H.out.2.1 H.out.2.2 oa l _ c h.len (h.cells.below hb (Nat.le_refl _))

theorem pick_r (first : Bool) (oa ob : Option Addr) (n m : Nat) (a b : List UInt8) (c d : Nat) (w : World) (ha : Reads w oa n a) (hb : Reads w ob m b) (hla : n ≤ 140737488351232) (hlb : m ≤ 140737488351232) :
    Calls Try.prog 11 #[.bool first, .slice oa n c, .slice ob m d] w (BytesOut w (pickL first a b)) := by
  obtain ⟨rfl, ha⟩ := ha; obtain ⟨rfl, hb⟩ := hb
  exact (pick_any first oa ob a b c d w ha hb hla hlb).mono fun _ _ h => bytesOut_of h
theorem refPick_r (first : Bool) (oa ob : Option Addr) (n m : Nat) (a b : List UInt8) (c d : Nat) (w : World) (ha : Reads w oa n a) (hb : Reads w ob m b) (hla : n ≤ 140737488351232) (hlb : m ≤ 140737488351232) :
    Calls Try.prog 12 #[.bool first, .slice oa n c, .slice ob m d] w (BytesOut w (pickL first a b)) := by
  obtain ⟨rfl, ha⟩ := ha; obtain ⟨rfl, hb⟩ := hb
  exact (refPick_any first oa ob a b c d w ha hb hla hlb).mono fun _ _ h => bytesOut_of h
theorem xor_r (oa ob : Option Addr) (n m : Nat) (a b : List UInt8) (c d : Nat) (w : World) (ha : Reads w oa n a) (hb : Reads w ob m b) (hla : n ≤ 140737488351232) (hlb : m ≤ 140737488351232) :
    Calls Try.prog 13 #[.slice oa n c, .slice ob m d] w (BytesOut w (xorL a b)) := by
  obtain ⟨rfl, ha⟩ := ha; obtain ⟨rfl, hb⟩ := hb
  exact (xor_any oa ob a b c d w ha hb hla hlb).mono fun _ _ h => bytesOut_of h
theorem refXor_r (oa ob : Option Addr) (n m : Nat) (a b : List UInt8) (c d : Nat) (w : World) (ha : Reads w oa n a) (hb : Reads w ob m b) (hla : n ≤ 140737488351232) (hlb : m ≤ 140737488351232) :
    Calls Try.prog 14 #[.slice oa n c, .slice ob m d] w (BytesOut w (xorL a b)) := by
  obtain ⟨rfl, ha⟩ := ha; obtain ⟨rfl, hb⟩ := hb
  exact (refXor_any oa ob a b c d w ha hb hla hlb).mono fun _ _ h => bytesOut_of h
theorem bytes_r (oa ob : Option Addr) (n m : Nat) (a b : List UInt8) (c d : Nat) (w : World) (ha : Reads w oa n a) (hb : Reads w ob m b) (hla : n ≤ 140737488351232) (hlb : m ≤ 140737488351232) :
    Calls Try.prog 7 #[.slice oa n c, .slice ob m d] w fun e w' => e = .returned (.bool (decide (a = b))) ∧ Below w.heap.size w w' := by
  obtain ⟨rfl, ha⟩ := ha; obtain ⟨rfl, hb⟩ := hb
  exact bytes_any oa ob a b c d w ha hb hla hlb
theorem refBytes_r (oa ob : Option Addr) (n m : Nat) (a b : List UInt8) (c d : Nat) (w : World) (ha : Reads w oa n a) (hb : Reads w ob m b) (hla : n ≤ 140737488351232) (hlb : m ≤ 140737488351232) :
    Calls Try.prog 8 #[.slice oa n c, .slice ob m d] w fun e w' => e = .returned (.bool (decide (a = b))) ∧ ∃ n, w' = w.drewN n := by
  obtain ⟨rfl, ha⟩ := ha; obtain ⟨rfl, hb⟩ := hb
  exact refBytes_any oa ob a b c d w ha hb hla hlb
theorem zero_r (oa : Option Addr) (n : Nat) (l : List UInt8) (c : Nat) (w : World) (ha : Reads w oa n l) (hl : n ≤ 140737488351232) :
    Calls Try.prog 9 #[.slice oa n c] w fun e w' => e = .returned (.bool (zeroL l)) ∧ w' = w := by
  obtain ⟨rfl, ha⟩ := ha
  exact zero_any oa l c w ha hl
theorem refZero_r (oa : Option Addr) (n : Nat) (l : List UInt8) (c : Nat) (w : World) (ha : Reads w oa n l) (hl : n ≤ 140737488351232) :
    Calls Try.prog 10 #[.slice oa n c] w fun e w' => e = .returned (.bool (zeroL l)) ∧ w' = w := by
  obtain ⟨rfl, ha⟩ := ha
  exact refZero_any oa l c w ha hl

end Go.Proofs.Ytgpaekmkkjbilaa
