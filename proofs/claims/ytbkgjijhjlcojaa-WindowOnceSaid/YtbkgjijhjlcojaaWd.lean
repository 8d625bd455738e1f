/-
  Walks of windows: marks.
-/
import Derived.Test.YtbkgjijhjlcojaaWc
namespace Go.Proofs.Ytbkgjijhjlcojaa
open Go.RowKit Go.Proofs.Ytbkgjijhjlcojaa.Eager
set_option maxHeartbeats 400000
set_option linter.unusedVariables false
set_option linter.unusedSimpArgs false

/-- three cells that may be written -/
structure Cell3 (w : World) (b : Nat) (p q r : Value) : Prop where
  c0 : w.cell? ⟨b, 0, none⟩ = some p
  c1 : w.cell? ⟨b, 1, none⟩ = some q
  c2 : w.cell? ⟨b, 2, none⟩ = some r
  f0 : w.frozen? ⟨b, 0, none⟩ = false
  f1 : w.frozen? ⟨b, 1, none⟩ = false
  f2 : w.frozen? ⟨b, 2, none⟩ = false

theorem Cell3.later {w w' : World} {b : Nat} {p q r : Value} (h : Cell3 w b p q r) (hb : Below w.heap.size w w') : Cell3 w' b p q r := by
  have hl : b < w.heap.size := World.block_lt_of_cell? w ⟨b, 0, none⟩ h.c0
  exact ⟨cell_later hb h.c0, cell_later hb h.c1, cell_later hb h.c2, by rw [hb.frozen hl]; exact h.f0, by rw [hb.frozen hl]; exact h.f1, by rw [hb.frozen hl]; exact h.f2⟩

theorem Cell3.drew {w : World} {b : Nat} {p q r : Value} (h : Cell3 w b p q r) : Cell3 w.drew b p q r := h.later (below_drew w)

theorem Cell3.of_block {w : World} {b : Nat} {p q r : Value} {e : TypeId} (h : w.heap[b]? = some (.cells #[p, q, r] e)) : Cell3 w b p q r := by
  refine ⟨?_, ?_, ?_, ?_, ?_, ?_⟩ <;> simp [World.cell?, World.frozen?, h]

theorem Cell3.boxed (w : World) (p q r : Value) (e : TypeId) (o : Obj) : Cell3 ((w.alloc (.cells #[p, q, r] e)).alloc o) w.heap.size p q r :=
  Cell3.of_block (e := e) (by rw [heap_alloc_at, if_neg (by simp), heap_alloc_at, if_pos rfl])
theorem Cell3.fresh (w : World) (p q r : Value) (e : TypeId) (o : Obj) : Cell3 ((w.alloc o).alloc (.cells #[p, q, r] e)) (w.heap.size + 1) p q r :=
  Cell3.of_block (e := e) (by rw [heap_alloc_at, if_pos (by simp)])

theorem Cell3.setOther {w : World} {b : Nat} {p q r : Value} (h : Cell3 w b p q r) {a : Addr} (ha : a.block ≠ b) (u : Value) : Cell3 (w.setCell a u) b p q r := by
  obtain ⟨c0, c1, c2, f0, f1, f2⟩ := h
  exact ⟨by rw [World.cell?_setCell_far _ _ _ _ ha]; exact c0, by rw [World.cell?_setCell_far _ _ _ _ ha]; exact c1, by rw [World.cell?_setCell_far _ _ _ _ ha]; exact c2,
    by rw [World.frozen?_setCell]; exact f0, by rw [World.frozen?_setCell]; exact f1, by rw [World.frozen?_setCell]; exact f2⟩

theorem Cell3.set0 {w : World} {b : Nat} {p q r : Value} (h : Cell3 w b p q r) (u : Value) : Cell3 (w.setCell ⟨b, 0, none⟩ u) b u q r := by
  obtain ⟨c0, c1, c2, f0, f1, f2⟩ := h
  refine ⟨?_, ?_, ?_, by rw [World.frozen?_setCell]; exact f0, by rw [World.frozen?_setCell]; exact f1, by rw [World.frozen?_setCell]; exact f2⟩ <;> simp [go_sem, *]
theorem Cell3.set1 {w : World} {b : Nat} {p q r : Value} (h : Cell3 w b p q r) (u : Value) : Cell3 (w.setCell ⟨b, 1, none⟩ u) b p u r := by
  obtain ⟨c0, c1, c2, f0, f1, f2⟩ := h
  refine ⟨?_, ?_, ?_, by rw [World.frozen?_setCell]; exact f0, by rw [World.frozen?_setCell]; exact f1, by rw [World.frozen?_setCell]; exact f2⟩ <;> simp [go_sem, *]
theorem Cell3.set2 {w : World} {b : Nat} {p q r : Value} (h : Cell3 w b p q r) (u : Value) : Cell3 (w.setCell ⟨b, 2, none⟩ u) b p q u := by
  obtain ⟨c0, c1, c2, f0, f1, f2⟩ := h
  refine ⟨?_, ?_, ?_, by rw [World.frozen?_setCell]; exact f0, by rw [World.frozen?_setCell]; exact f1, by rw [World.frozen?_setCell]; exact f2⟩ <;> simp [go_sem, *]

theorem mark8_0 (t : Int) (x y : Nat) (n : Int) (w : World) (hx : Hid (x < 18446744073709551616)) (hy : Hid (y < 18446744073709551616)) (h : (freshL t x y n != 0) = true) :
    Calls Try.prog 8 #[.agg #[.int .i64 t, .int .u64 (x : Int), .int .u64 (y : Int)], .int .i64 n] w fun r w' => r = .returned (.agg #[.int .i64 t, .int .u64 (x : Int), .int .u64 (y : Int)]) ∧ Below w.heap.size w w' := by
  have H := fun W => Lib.hid (fresh6 t x y n W hx hy)
  generalize freshL t x y n = f at *
  go_enter Try.func8, Try.ntmps8
  go_wp2_with fail
  refine (H _).out.mono ?_
  rintro r w1 ⟨rfl, hb1⟩
  have h1 := below_step (below_alloc2 w _ _) hb1
  obtain ⟨c0, c1, c2, g0, g1, g2⟩ := (Cell3.boxed w (.int .i64 t) (.int .u64 (x : Int)) (.int .u64 (y : Int)) 24 _).later hb1
  obtain ⟨d0, d1, d2, f0, f1, f2⟩ := (Cell3.fresh w (.int .i64 0) (.int .u64 0) (.int .u64 0) 24 _).later hb1
  clear hb1
  have CR : Cell3 w1 (w.heap.size + 1) (.int .i64 0) (.int .u64 0) (.int .u64 0) := ⟨d0, d1, d2, f0, f1, f2⟩
  have CS := Lib.hid (((CR.set0 (.int .i64 t)).set1 (.int .u64 (x : Int))).set2 (.int .u64 (y : Int))); clear CR
  go_wp2
  obtain ⟨e0, e1, e2, -, -, -⟩ := CS.out
  exact bodyPost_ret (v := .agg #[.int .i64 t, .int .u64 (x : Int), .int .u64 (y : Int)]) (by simp [results, Try.results8, go_sem, e0, e1, e2]) rfl ⟨rfl, ((h1.setCell (by simp) _).setCell (by simp) _).setCell (by simp) _⟩
/-- two cells that may be written -/
structure Cell2 (w : World) (b : Nat) (p q : Value) : Prop where
  c0 : w.cell? ⟨b, 0, none⟩ = some p
  c1 : w.cell? ⟨b, 1, none⟩ = some q
  f0 : w.frozen? ⟨b, 0, none⟩ = false
  f1 : w.frozen? ⟨b, 1, none⟩ = false

theorem Cell2.later {w w' : World} {b : Nat} {p q : Value} (h : Cell2 w b p q) (hb : Below w.heap.size w w') : Cell2 w' b p q := by
  have hl : b < w.heap.size := World.block_lt_of_cell? w ⟨b, 0, none⟩ h.c0
  exact ⟨cell_later hb h.c0, cell_later hb h.c1, by rw [hb.frozen hl]; exact h.f0, by rw [hb.frozen hl]; exact h.f1⟩

theorem Cell2.drew {w : World} {b : Nat} {p q : Value} (h : Cell2 w b p q) : Cell2 w.drew b p q := h.later (below_drew w)

theorem Cell2.of_block {w : World} {b : Nat} {p q : Value} {e : TypeId} (h : w.heap[b]? = some (.cells #[p, q] e)) : Cell2 w b p q := by
  refine ⟨?_, ?_, ?_, ?_⟩ <;> simp [World.cell?, World.frozen?, h]
theorem Cell2.new (w : World) (p q : Value) (e : TypeId) : Cell2 (w.alloc (.cells #[p, q] e)) w.heap.size p q :=
  Cell2.of_block (e := e) (by rw [heap_alloc_at, if_pos rfl])

theorem Cell2.setOther {w : World} {b : Nat} {p q : Value} (h : Cell2 w b p q) {a : Addr} (ha : a.block ≠ b) (u : Value) : Cell2 (w.setCell a u) b p q := by
  obtain ⟨c0, c1, f0, f1⟩ := h
  exact ⟨by rw [World.cell?_setCell_far _ _ _ _ ha]; exact c0, by rw [World.cell?_setCell_far _ _ _ _ ha]; exact c1, by rw [World.frozen?_setCell]; exact f0, by rw [World.frozen?_setCell]; exact f1⟩
theorem Cell2.set0 {w : World} {b : Nat} {p q : Value} (h : Cell2 w b p q) (u : Value) : Cell2 (w.setCell ⟨b, 0, none⟩ u) b u q := by
  obtain ⟨c0, c1, f0, f1⟩ := h
  refine ⟨?_, ?_, by rw [World.frozen?_setCell]; exact f0, by rw [World.frozen?_setCell]; exact f1⟩ <;> simp [go_sem, *]
theorem Cell2.set1 {w : World} {b : Nat} {p q : Value} (h : Cell2 w b p q) (u : Value) : Cell2 (w.setCell ⟨b, 1, none⟩ u) b p u := by
  obtain ⟨c0, c1, f0, f1⟩ := h
  refine ⟨?_, ?_, by rw [World.frozen?_setCell]; exact f0, by rw [World.frozen?_setCell]; exact f1⟩ <;> simp [go_sem, *]

theorem setL_lt (x y k : Nat) (hx : x < 18446744073709551616) (hy : y < 18446744073709551616) (hk : k < 128) : (setL x y k).1 < 18446744073709551616 ∧ (setL x y k).2 < 18446744073709551616 := by
  unfold setL
  split
  · refine ⟨?_, hy⟩
    exact Nat.or_lt_two_pow (n := 64) hx (Nat.pow_lt_pow_of_lt (by omega) (by omega))
  · refine ⟨hx, ?_⟩
    exact Nat.or_lt_two_pow (n := 64) hy (Nat.pow_lt_pow_of_lt (by omega) (by omega))

theorem shL_lt (x y k : Nat) (hx : x < 18446744073709551616) (hy : y < 18446744073709551616) : (shL x y k).1 < 18446744073709551616 ∧ (shL x y k).2 < 18446744073709551616 := by
  unfold shL
  split
  · exact ⟨by omega, by omega⟩
  · split
    · exact ⟨by omega, Nat.mod_lt _ (by omega)⟩
    · split
      · refine ⟨Nat.mod_lt _ (by omega), Nat.or_lt_two_pow (n := 64) (Nat.mod_lt _ (by omega)) ?_⟩
        exact Nat.lt_of_le_of_lt (Nat.div_le_self _ _) hx
      · exact ⟨hx, hy⟩

/-- a window in which a number was marked that may come -/
def putL (t : Int) (x y : Nat) (n : Int) : Int × Nat × Nat :=
  if t < n then (n, setL (shL x y (n - t).toNat).1 (shL x y (n - t).toNat).2 0) else (t, setL x y (t - n).toNat)

theorem mark8_1 (t : Int) (x y a b p q : Nat) (n d : Int) (w : World) (hx : Hid (x < 18446744073709551616)) (hy : Hid (y < 18446744073709551616)) (h : (freshL t x y n != 0) = false) (hn : decide (t < n) = true)
    (hd : IntKind.i64.wrap (n - t) = d)
    (HS : Hid (∀ W, Calls Try.prog 18 #[.agg #[.int .u64 (x : Int), .int .u64 (y : Int)], .int .i64 d] W fun r w' => r = .returned (.agg #[.int .u64 (a : Int), .int .u64 (b : Int)]) ∧ Below W.heap.size W w'))
    (HT : Hid (∀ W, Calls Try.prog 19 #[.agg #[.int .u64 (a : Int), .int .u64 (b : Int)], .int .i64 0] W fun r w' => r = .returned (.agg #[.int .u64 (p : Int), .int .u64 (q : Int)]) ∧ Below W.heap.size W w')) :
    Calls Try.prog 8 #[.agg #[.int .i64 t, .int .u64 (x : Int), .int .u64 (y : Int)], .int .i64 n] w fun r w' => r = .returned (.agg #[.int .i64 n, .int .u64 (p : Int), .int .u64 (q : Int)]) ∧ Below w.heap.size w w' := by
  have H := fun W => Lib.hid (fresh6 t x y n W hx hy)
  generalize freshL t x y n = f at *
  have hnn : IntKind.i64.wrap (n - n) = 0 := by rw [Int.sub_self]; rfl
  go_enter Try.func8, Try.ntmps8
  go_wp2_with fail
  refine (H _).out.mono ?_
  rintro r w1 ⟨rfl, hb1⟩
  have h1 := below_step (below_alloc2 w _ _) hb1
  have C := (Cell3.boxed w (.int .i64 t) (.int .u64 (x : Int)) (.int .u64 (y : Int)) 24 _).later hb1
  have D := (Cell3.fresh w (.int .i64 0) (.int .u64 0) (.int .u64 0) 24 _).later hb1
  obtain ⟨c0, c1, c2, g0, g1, g2⟩ := id C
  clear hb1 H
  go_wp2_with fail
  refine (of15 t x y _).mono ?_
  rintro r w2 ⟨rfl, hb2⟩
  clear c0 c1 c2 g0 g1 g2
  replace h1 := below_step h1 hb2
  replace C := C.later hb2
  replace D := D.later hb2
  clear hb2
  have hlt : w.heap.size + 1 < w2.heap.size := World.block_lt_of_cell? w2 ⟨w.heap.size + 1, 0, none⟩ D.c0
  have E := Cell2.new w2 (.int .u64 (x : Int)) (.int .u64 (y : Int)) 37
  have hal : Below w2.heap.size w2 (w2.alloc (.cells #[.int .u64 (x : Int), .int .u64 (y : Int)] 37)) := (Below.refl _ _).alloc (Nat.le_refl _) _
  replace h1 := below_step h1 hal
  replace C := C.later hal
  replace D := D.later hal
  obtain ⟨c0, c1, c2, g0, g1, g2⟩ := id C
  obtain ⟨e0, e1, i0, i1⟩ := id E
  clear hal
  go_wp2_with fail
  refine (HS.out _).mono ?_
  rintro r w3 ⟨rfl, hb3⟩
  clear c0 c1 c2 g0 g1 g2 e0 e1 i0 i1
  replace h1 := below_step h1 hb3
  replace C := C.later hb3
  replace D := D.later hb3
  replace E := E.later hb3
  clear hb3
  obtain ⟨c0, c1, c2, g0, g1, g2⟩ := id C
  obtain ⟨e0, e1, i0, i1⟩ := id E
  have hlt' : ∀ z, (w3.setCell ⟨w2.heap.size, 0, none⟩ z).heap.size = w3.heap.size := fun _ => by simp [World.setCell]
  replace E := Lib.hid ((E.set0 (.int .u64 (a : Int))).set1 (.int .u64 (b : Int)))
  go_wp2_with fail
  refine (HT.out _).mono ?_
  rintro r w4 ⟨rfl, hb4⟩
  clear c0 c1 c2 g0 g1 g2 e0 e1 i0 i1
  have n1 : w2.heap.size ≠ w.heap.size := by omega
  have n2 : w2.heap.size ≠ w.heap.size + 1 := by omega
  have n3 : w.heap.size ≠ w2.heap.size := by omega
  have n4 : w.heap.size ≠ w.heap.size + 1 := by omega
  replace C := (((C.setOther (a := ⟨w2.heap.size, 0, none⟩) n1 (.int .u64 (a : Int))).setOther (a := ⟨w2.heap.size, 1, none⟩) n1 (.int .u64 (b : Int))).set0 (.int .i64 n)).later hb4
  replace D := (((D.setOther (a := ⟨w2.heap.size, 0, none⟩) n2 (.int .u64 (a : Int))).setOther (a := ⟨w2.heap.size, 1, none⟩) n2 (.int .u64 (b : Int))).setOther (a := ⟨w.heap.size, 0, none⟩) n4 (.int .i64 n)).later hb4
  replace E := (E.out.setOther (a := ⟨w.heap.size, 0, none⟩) n3 (.int .i64 n)).later hb4
  replace h1 := below_step (((h1.setCell (p := ⟨w2.heap.size, 0, none⟩) (by show _ ≤ w2.heap.size; omega) (.int .u64 (a : Int))).setCell (p := ⟨w2.heap.size, 1, none⟩) (by show _ ≤ w2.heap.size; omega) (.int .u64 (b : Int))).setCell (p := ⟨w.heap.size, 0, none⟩) (Nat.le_refl _) (.int .i64 n)) hb4
  clear hb4 hlt'
  obtain ⟨c0, c1, c2, g0, g1, g2⟩ := id C
  obtain ⟨d0, d1, d2, f0, f1, f2⟩ := id D
  obtain ⟨e0, e1, i0, i1⟩ := id E
  have CS := Lib.hid ((((C.setOther (a := ⟨w2.heap.size, 0, none⟩) n1 (.int .u64 (p : Int))).setOther (a := ⟨w2.heap.size, 1, none⟩) n1 (.int .u64 (q : Int))).set1 (.int .u64 (p : Int))).set2 (.int .u64 (q : Int)))
  have DS := Lib.hid ((((D.setOther (a := ⟨w2.heap.size, 0, none⟩) n2 (.int .u64 (p : Int))).setOther (a := ⟨w2.heap.size, 1, none⟩) n2 (.int .u64 (q : Int))).setOther (a := ⟨w.heap.size, 1, none⟩) n4 (.int .u64 (p : Int))).setOther (a := ⟨w.heap.size, 2, none⟩) n4 (.int .u64 (q : Int)))
  have h2 := ((((h1.setCell (p := ⟨w2.heap.size, 0, none⟩) (by show _ ≤ w2.heap.size; omega) (.int .u64 (p : Int))).setCell (p := ⟨w2.heap.size, 1, none⟩) (by show _ ≤ w2.heap.size; omega) (.int .u64 (q : Int))).setCell (p := ⟨w.heap.size, 1, none⟩) (Nat.le_refl _) (.int .u64 (p : Int))).setCell (p := ⟨w.heap.size, 2, none⟩) (Nat.le_refl _) (.int .u64 (q : Int))).drew
  clear C D E
  go_wp2_with fail
  go_region
  clear c0 c1 c2 g0 g1 g2 d0 d1 d2 f0 f1 f2 e0 e1 i0 i1 h1
  replace CS := CS.out.drew
  replace DS := DS.out.drew
  generalize (World.drew (((w4.setCell ⟨w2.heap.size, 0, none⟩ (.int .u64 (p : Int))).setCell ⟨w2.heap.size, 1, none⟩ (.int .u64 (q : Int))).setCell ⟨w.heap.size, 1, none⟩ (.int .u64 (p : Int)) |>.setCell ⟨w.heap.size, 2, none⟩ (.int .u64 (q : Int)))) = W5 at *
  obtain ⟨c0, c1, c2, g0, g1, g2⟩ := CS
  obtain ⟨d0, d1, d2, f0, f1, f2⟩ := id DS
  replace DS := Lib.hid (((DS.set0 (.int .i64 n)).set1 (.int .u64 (p : Int))).set2 (.int .u64 (q : Int)))
  go_wp2
  clear d0 d1 d2 c0 c1 c2
  obtain ⟨e0, e1, e2, -, -, -⟩ := DS.out
  exact bodyPost_ret (v := .agg #[.int .i64 n, .int .u64 (p : Int), .int .u64 (q : Int)]) (by simp [results, Try.results8, go_sem, e0, e1, e2]) rfl ⟨rfl, ((h2.setCell (by simp) _).setCell (by simp) _).setCell (by simp) _⟩

theorem mark8_2 (t : Int) (x y p q : Nat) (n d : Int) (w : World) (hx : Hid (x < 18446744073709551616)) (hy : Hid (y < 18446744073709551616)) (h : (freshL t x y n != 0) = false) (hn : decide (t < n) = false)
    (hd : IntKind.i64.wrap (t - n) = d)
    (HT : Hid (∀ W, Calls Try.prog 19 #[.agg #[.int .u64 (x : Int), .int .u64 (y : Int)], .int .i64 d] W fun r w' => r = .returned (.agg #[.int .u64 (p : Int), .int .u64 (q : Int)]) ∧ Below W.heap.size W w')) :
    Calls Try.prog 8 #[.agg #[.int .i64 t, .int .u64 (x : Int), .int .u64 (y : Int)], .int .i64 n] w fun r w' => r = .returned (.agg #[.int .i64 t, .int .u64 (p : Int), .int .u64 (q : Int)]) ∧ Below w.heap.size w w' := by
  have H := fun W => Lib.hid (fresh6 t x y n W hx hy)
  generalize freshL t x y n = f at *
  go_enter Try.func8, Try.ntmps8
  go_wp2_with fail
  refine (H _).out.mono ?_
  rintro r w1 ⟨rfl, hb1⟩
  have h1 := below_step (below_alloc2 w _ _) hb1
  have C := (Cell3.boxed w (.int .i64 t) (.int .u64 (x : Int)) (.int .u64 (y : Int)) 24 _).later hb1
  have D := (Cell3.fresh w (.int .i64 0) (.int .u64 0) (.int .u64 0) 24 _).later hb1
  obtain ⟨c0, c1, c2, g0, g1, g2⟩ := id C
  clear hb1 H
  go_wp2_with fail
  refine (of15 t x y _).mono ?_
  rintro r w2 ⟨rfl, hb2⟩
  clear c0 c1 c2 g0 g1 g2
  replace h1 := below_step h1 hb2
  replace C := C.later hb2
  replace D := D.later hb2
  clear hb2
  have hlt : w.heap.size + 1 < w2.heap.size := World.block_lt_of_cell? w2 ⟨w.heap.size + 1, 0, none⟩ D.c0
  have E := Cell2.new w2 (.int .u64 (x : Int)) (.int .u64 (y : Int)) 37
  have hal : Below w2.heap.size w2 (w2.alloc (.cells #[.int .u64 (x : Int), .int .u64 (y : Int)] 37)) := (Below.refl _ _).alloc (Nat.le_refl _) _
  replace h1 := below_step h1 hal
  replace C := C.later hal
  replace D := D.later hal
  obtain ⟨c0, c1, c2, g0, g1, g2⟩ := id C
  obtain ⟨e0, e1, i0, i1⟩ := id E
  clear hal
  go_wp2_with fail
  refine (HT.out _).mono ?_
  rintro r w4 ⟨rfl, hb4⟩
  clear c0 c1 c2 g0 g1 g2 e0 e1 i0 i1
  have n1 : w2.heap.size ≠ w.heap.size := by omega
  have n2 : w2.heap.size ≠ w.heap.size + 1 := by omega
  have n3 : w.heap.size ≠ w2.heap.size := by omega
  have n4 : w.heap.size ≠ w.heap.size + 1 := by omega
  replace C := C.later hb4
  replace D := D.later hb4
  replace E := E.later hb4
  replace h1 := below_step h1 hb4
  clear hb4
  obtain ⟨c0, c1, c2, g0, g1, g2⟩ := id C
  obtain ⟨d0, d1, d2, f0, f1, f2⟩ := id D
  obtain ⟨e0, e1, i0, i1⟩ := id E
  have CS := Lib.hid ((((C.setOther (a := ⟨w2.heap.size, 0, none⟩) n1 (.int .u64 (p : Int))).setOther (a := ⟨w2.heap.size, 1, none⟩) n1 (.int .u64 (q : Int))).set1 (.int .u64 (p : Int))).set2 (.int .u64 (q : Int)))
  have DS := Lib.hid ((((D.setOther (a := ⟨w2.heap.size, 0, none⟩) n2 (.int .u64 (p : Int))).setOther (a := ⟨w2.heap.size, 1, none⟩) n2 (.int .u64 (q : Int))).setOther (a := ⟨w.heap.size, 1, none⟩) n4 (.int .u64 (p : Int))).setOther (a := ⟨w.heap.size, 2, none⟩) n4 (.int .u64 (q : Int)))
  have h2 := ((((h1.setCell (p := ⟨w2.heap.size, 0, none⟩) (by show _ ≤ w2.heap.size; omega) (.int .u64 (p : Int))).setCell (p := ⟨w2.heap.size, 1, none⟩) (by show _ ≤ w2.heap.size; omega) (.int .u64 (q : Int))).setCell (p := ⟨w.heap.size, 1, none⟩) (Nat.le_refl _) (.int .u64 (p : Int))).setCell (p := ⟨w.heap.size, 2, none⟩) (Nat.le_refl _) (.int .u64 (q : Int))).drew
  clear C D E
  go_wp2_with fail
  go_region
  clear c0 c1 c2 g0 g1 g2 d0 d1 d2 f0 f1 f2 e0 e1 i0 i1 h1
  replace CS := CS.out.drew
  replace DS := DS.out.drew
  generalize (World.drew (((w4.setCell ⟨w2.heap.size, 0, none⟩ (.int .u64 (p : Int))).setCell ⟨w2.heap.size, 1, none⟩ (.int .u64 (q : Int))).setCell ⟨w.heap.size, 1, none⟩ (.int .u64 (p : Int)) |>.setCell ⟨w.heap.size, 2, none⟩ (.int .u64 (q : Int)))) = W5 at *
  obtain ⟨c0, c1, c2, g0, g1, g2⟩ := CS
  obtain ⟨d0, d1, d2, f0, f1, f2⟩ := id DS
  replace DS := Lib.hid (((DS.set0 (.int .i64 t)).set1 (.int .u64 (p : Int))).set2 (.int .u64 (q : Int)))
  go_wp2
  clear d0 d1 d2 c0 c1 c2
  obtain ⟨e0, e1, e2, -, -, -⟩ := DS.out
  exact bodyPost_ret (v := .agg #[.int .i64 t, .int .u64 (p : Int), .int .u64 (q : Int)]) (by simp [results, Try.results8, go_sem, e0, e1, e2]) rfl ⟨rfl, ((h2.setCell (by simp) _).setCell (by simp) _).setCell (by simp) _⟩


/-- the window behind a number -/
def markL (t : Int) (x y : Nat) (n : Int) : Int × Nat × Nat := if freshL t x y n = 0 then putL t x y n else (t, x, y)

theorem fresh_bounds {t : Int} {x y : Nat} {n : Int} (h : freshL t x y n = 0) : rightL t n = true ∧ t - n < 128 := by
  unfold freshL at h
  split at h
  · cases h
  · rename_i h1
    refine ⟨by simpa using h1, ?_⟩
    split at h
    · omega
    · split at h
      · cases h
      · omega

theorem mark8 (t : Int) (x y : Nat) (n : Int) (w : World) (hx : Hid (x < 18446744073709551616)) (hy : Hid (y < 18446744073709551616)) :
    Calls Try.prog 8 #[.agg #[.int .i64 t, .int .u64 (x : Int), .int .u64 (y : Int)], .int .i64 n] w fun r w' => r = .returned (.agg #[.int .i64 (markL t x y n).1, .int .u64 ((markL t x y n).2.1 : Int), .int .u64 ((markL t x y n).2.2 : Int)]) ∧ Below w.heap.size w w' := by
  by_cases h : freshL t x y n = 0
  · obtain ⟨hr, hlt⟩ := fresh_bounds h
    obtain ⟨r1, r2, r3, r4⟩ := rightL_true hr
    by_cases h2 : t < n
    · have e : markL t x y n = (n, setL (shL x y (n - t).toNat).1 (shL x y (n - t).toNat).2 0) := by unfold markL putL; rw [if_pos h, if_pos h2]
      rw [e]
      have hb := shL_lt x y (n - t).toNat hx.out hy.out
      exact mark8_1 t x y _ _ _ _ n (n - t) w hx hy (by simp [h]) (decide_eq_true h2) (by rw [IntKind.wrap_i64]; omega)
        (fun W => shift18_any x y (n - t) W hx hy (by omega)) (fun W => set19_any _ _ 0 W hb.1 hb.2 (by omega) (by omega))
    · have e : markL t x y n = (t, setL x y (t - n).toNat) := by unfold markL putL; rw [if_pos h, if_neg h2]
      rw [e]
      exact mark8_2 t x y _ _ n (t - n) w hx hy (by simp [h]) (decide_eq_false h2) (by rw [IntKind.wrap_i64]; omega)
        (fun W => set19_any x y (t - n) W hx hy (by omega) (by omega))
  · have e : markL t x y n = (t, x, y) := by unfold markL; rw [if_neg h]
    rw [e]
    exact mark8_0 t x y n w hx hy (by simp [h])
end Go.Proofs.Ytbkgjijhjlcojaa
