/-
  Walks: how far peers reach, products of words, whether an owner is near.
-/
import Derived.Test.YtpefeoneafddkaaWa
import Derived.Test.YtpefeoneafddkaaEager
namespace Go.Proofs.Ytpefeoneafddkaa
open Go.RowKit Go.Proofs.Ytpefeoneafddkaa.Eager
set_option maxHeartbeats 400000
set_option linter.unusedVariables false
set_option linter.unusedSimpArgs false

/-- how far a node's peers reach -/
def spanL (me : Ent) (l : List Peer) : UInt64 := dist me.id (beforeL me l)

theorem span9 (me : Ent) (oa : Option Addr) (n c : Nat) (l : List Peer) (w : World) (h : RowsOf Peer.cells w oa n l) (hn : n ≤ 140737488351232) :
    Calls Try.prog 9 #[.agg #[.string me.name, .int .u64 (me.id.toNat : Int), .int .i64 me.frm, .int .i64 me.til, .int .i64 me.idx, .string me.tag], .slice oa n c] w fun r w' => r = .returned (.int .u64 ((spanL me l).toNat : Int)) ∧ Below w.heap.size w w' := by
  have H : Hid (∀ W, Below w.heap.size w W → RowsOf Peer.cells W oa n l) := fun W hb => h.below hb
  clear h
  have h0 : Below w.heap.size w (w.alloc (.cells #[.string me.name, .int .u64 (me.id.toNat : Int), .int .i64 me.frm, .int .i64 me.til, .int .i64 me.idx, .string me.tag] 24)) := (Below.refl _ _).alloc (Nat.le_refl _) _
  go_enter Try.func9, Try.ntmps9
  go_wp2_with fail
  refine wp_region_seq [(0, true), (1, true), (2, true), (3, true), (4, false), (5, false), (6, true)] (by kernel_rfl) (by kernel_rfl) (fun _ _ dd _ _ h => by cases dd <;> exact h) ?_
  intro W0 hW0
  have h1 : Below w.heap.size w W0 := hW0 ▸ h0.drew
  have cme0 : ∀ W, Below W0.heap.size W0 W → W.cell? ⟨w.heap.size, 0, none⟩ = some (.string me.name) := fun W hb => cell_later hb (by rw [hW0]; simp [World.cell?_alloc_at])
  have cme1 : ∀ W, Below W0.heap.size W0 W → W.cell? ⟨w.heap.size, 1, none⟩ = some (.int .u64 (me.id.toNat : Int)) := fun W hb => cell_later hb (by rw [hW0]; simp [World.cell?_alloc_at])
  have cme2 : ∀ W, Below W0.heap.size W0 W → W.cell? ⟨w.heap.size, 2, none⟩ = some (.int .i64 me.frm) := fun W hb => cell_later hb (by rw [hW0]; simp [World.cell?_alloc_at])
  have cme3 : ∀ W, Below W0.heap.size W0 W → W.cell? ⟨w.heap.size, 3, none⟩ = some (.int .i64 me.til) := fun W hb => cell_later hb (by rw [hW0]; simp [World.cell?_alloc_at])
  have cme4 : ∀ W, Below W0.heap.size W0 W → W.cell? ⟨w.heap.size, 4, none⟩ = some (.int .i64 me.idx) := fun W hb => cell_later hb (by rw [hW0]; simp [World.cell?_alloc_at])
  have cme5 : ∀ W, Below W0.heap.size W0 W → W.cell? ⟨w.heap.size, 5, none⟩ = some (.string me.tag) := fun W hb => cell_later hb (by rw [hW0]; simp [World.cell?_alloc_at])
  clear hW0 h0
  (refine seq_take (d := 5) (v := ?_) rfl rfl rfl ?_ ?_; rotate_left; (focus ((intro w' hb0 hw'; go_simp) <;> with_reducible rfl)); simp only [Act.put, List.setIfInBounds_toArray, List.set_cons_zero, List.set_cons_succ])
  (refine seq_take (d := 6) (v := ?_) rfl rfl rfl ?_ ?_; rotate_left; (focus ((intro w' hb0 hw'; go_simp) <;> with_reducible rfl)); simp only [Act.put, List.setIfInBounds_toArray, List.set_cons_zero, List.set_cons_succ])
  (refine seq_take (d := 7) (v := ?_) rfl rfl rfl ?_ ?_; rotate_left; (focus ((intro w' hb0 hw'; go_simp) <;> with_reducible rfl)); simp only [Act.put, List.setIfInBounds_toArray, List.set_cons_zero, List.set_cons_succ])
  (refine seq_take (d := 8) (v := ?_) rfl rfl rfl ?_ ?_; rotate_left; (focus ((intro w' hb0 hw'; go_simp) <;> with_reducible rfl)); simp only [Act.put, List.setIfInBounds_toArray, List.set_cons_zero, List.set_cons_succ])
  refine seq_do rfl rfl (fun K hK => ?_)
  go_simp
  refine (before17 me _ _ _ l _ (H.out _ (by assumption)) hn).mono ?_
  rintro r w1 ⟨rfl, hb1⟩
  have h1 := below_step (W := w) (by assumption) hb1
  refine hK _ _ hb1 ?_
  clear hb1 hK K
  refine seq_do rfl rfl (fun K hK => ?_)
  go_simp
  refine (dist16 _ _ _).mono ?_
  rintro r w2 ⟨rfl, rfl⟩
  refine hK _ _ (Below.refl _ _) ?_
  clear hK K
  (refine seq_take (d := 4) (v := ?_) rfl rfl rfl ?_ ?_; rotate_left; (focus ((intro w' hb0 hw'; go_simp) <;> with_reducible rfl)); simp only [Act.put, List.setIfInBounds_toArray, List.set_cons_zero, List.set_cons_succ])
  refine seq_end ?_
  go_wp2
  go_ret
  exact ⟨rfl, h1⟩

theorem span10_nil (me : Ent) (oa : Option Addr) (c : Nat) (w : World) :
    Calls Try.prog 10 #[.agg #[.string me.name, .int .u64 (me.id.toNat : Int), .int .i64 me.frm, .int .i64 me.til, .int .i64 me.idx, .string me.tag], .slice oa 0 c] w fun r w' => r = .returned (.int .u64 ((spanL me []).toNat : Int)) ∧ Below w.heap.size w w' := by
  have hz : (spanL me []).toNat = 0 := by simp [spanL, dist, beforeL]
  rw [hz]
  go_enter Try.func10, Try.ntmps10
  go_wp2
  go_ret
  exact ⟨rfl, (Below.refl _ _).alloc (Nat.le_refl _) _⟩

theorem span10_some (me : Ent) (oa : Option Addr) (n c : Nat) (l : List Peer) (w : World) (h : RowsOf Peer.cells w oa n l) (hn : n ≤ 140737488351232) (hpos : 0 < n) :
    Calls Try.prog 10 #[.agg #[.string me.name, .int .u64 (me.id.toNat : Int), .int .i64 me.frm, .int .i64 me.til, .int .i64 me.idx, .string me.tag], .slice oa n c] w fun r w' => r = .returned (.int .u64 ((spanL me l).toNat : Int)) ∧ Below w.heap.size w w' := by
  have H : Hid (∀ W, Below w.heap.size w W → RowsOf Peer.cells W oa n l) := fun W hb => h.below hb
  clear h
  have hne : ((n : Int) == 0) = false := by rw [beq_eq_false_iff_ne]; omega
  have h0 : Below w.heap.size w (w.alloc (.cells #[.string me.name, .int .u64 (me.id.toNat : Int), .int .i64 me.frm, .int .i64 me.til, .int .i64 me.idx, .string me.tag] 24)) := (Below.refl _ _).alloc (Nat.le_refl _) _
  go_enter Try.func10, Try.ntmps10
  go_wp2_with fail
  refine wp_region_seq [(0, true), (1, true), (2, true), (3, true), (4, false), (5, false), (6, true)] (by kernel_rfl) (by kernel_rfl) (fun _ _ dd _ _ h => by cases dd <;> exact h) ?_
  intro W0 hW0
  have h1 : Below w.heap.size w W0 := hW0 ▸ h0.drew
  have cme0 : ∀ W, Below W0.heap.size W0 W → W.cell? ⟨w.heap.size, 0, none⟩ = some (.string me.name) := fun W hb => cell_later hb (by rw [hW0]; simp [World.cell?_alloc_at])
  have cme1 : ∀ W, Below W0.heap.size W0 W → W.cell? ⟨w.heap.size, 1, none⟩ = some (.int .u64 (me.id.toNat : Int)) := fun W hb => cell_later hb (by rw [hW0]; simp [World.cell?_alloc_at])
  have cme2 : ∀ W, Below W0.heap.size W0 W → W.cell? ⟨w.heap.size, 2, none⟩ = some (.int .i64 me.frm) := fun W hb => cell_later hb (by rw [hW0]; simp [World.cell?_alloc_at])
  have cme3 : ∀ W, Below W0.heap.size W0 W → W.cell? ⟨w.heap.size, 3, none⟩ = some (.int .i64 me.til) := fun W hb => cell_later hb (by rw [hW0]; simp [World.cell?_alloc_at])
  have cme4 : ∀ W, Below W0.heap.size W0 W → W.cell? ⟨w.heap.size, 4, none⟩ = some (.int .i64 me.idx) := fun W hb => cell_later hb (by rw [hW0]; simp [World.cell?_alloc_at])
  have cme5 : ∀ W, Below W0.heap.size W0 W → W.cell? ⟨w.heap.size, 5, none⟩ = some (.string me.tag) := fun W hb => cell_later hb (by rw [hW0]; simp [World.cell?_alloc_at])
  clear hW0 h0
  (refine seq_take (d := 8) (v := ?_) rfl rfl rfl ?_ ?_; rotate_left; (focus ((intro w' hb0 hw'; go_simp) <;> with_reducible rfl)); simp only [Act.put, List.setIfInBounds_toArray, List.set_cons_zero, List.set_cons_succ])
  (refine seq_take (d := 9) (v := ?_) rfl rfl rfl ?_ ?_; rotate_left; (focus ((intro w' hb0 hw'; go_simp) <;> with_reducible rfl)); simp only [Act.put, List.setIfInBounds_toArray, List.set_cons_zero, List.set_cons_succ])
  (refine seq_take (d := 10) (v := ?_) rfl rfl rfl ?_ ?_; rotate_left; (focus ((intro w' hb0 hw'; go_simp) <;> with_reducible rfl)); simp only [Act.put, List.setIfInBounds_toArray, List.set_cons_zero, List.set_cons_succ])
  (refine seq_take (d := 11) (v := ?_) rfl rfl rfl ?_ ?_; rotate_left; (focus ((intro w' hb0 hw'; go_simp) <;> with_reducible rfl)); simp only [Act.put, List.setIfInBounds_toArray, List.set_cons_zero, List.set_cons_succ])
  refine seq_do rfl rfl (fun K hK => ?_)
  go_simp
  refine (before18 me _ _ _ l _ (H.out _ (by assumption)) hn).mono ?_
  rintro r w1 ⟨rfl, hb1⟩
  have h1 := below_step (W := w) (by assumption) hb1
  refine hK _ _ hb1 ?_
  clear hb1 hK K
  refine seq_do rfl rfl (fun K hK => ?_)
  go_simp
  refine (dist15 _ _ _).mono ?_
  rintro r w2 ⟨rfl, rfl⟩
  refine hK _ _ (Below.refl _ _) ?_
  clear hK K
  (refine seq_take (d := 4) (v := ?_) rfl rfl rfl ?_ ?_; rotate_left; (focus ((intro w' hb0 hw'; go_simp) <;> with_reducible rfl)); simp only [Act.put, List.setIfInBounds_toArray, List.set_cons_zero, List.set_cons_succ])
  refine seq_end ?_
  go_wp2
  go_ret
  exact ⟨rfl, h1⟩

theorem span10 (me : Ent) (oa : Option Addr) (n c : Nat) (l : List Peer) (w : World) (h : RowsOf Peer.cells w oa n l) (hn : n ≤ 140737488351232) :
    Calls Try.prog 10 #[.agg #[.string me.name, .int .u64 (me.id.toNat : Int), .int .i64 me.frm, .int .i64 me.til, .int .i64 me.idx, .string me.tag], .slice oa n c] w fun r w' => r = .returned (.int .u64 ((spanL me l).toNat : Int)) ∧ Below w.heap.size w w' := by
  by_cases h0 : n = 0
  · subst h0
    obtain rfl : l = [] := List.eq_nil_of_length_eq_zero h.len.symm
    exact span10_nil me oa c w
  · exact span10_some me oa n c l w h hn (by omega)

theorem times19 (x y : Nat) (w : World) (hx : Hid (x < 18446744073709551616)) (hy : Hid (y < 18446744073709551616)) :
    Calls Try.prog 19 #[.int .u64 (x : Int), .int .u64 (y : Int)] w fun r w' => r = .returned (.agg #[.int .u64 ((x * y / 18446744073709551616 : Nat) : Int), .int .u64 ((x * y % 18446744073709551616 : Nat) : Int)]) ∧ Below w.heap.size w w' := by
  have HM := fun (W : World) => Lib.hid (Try.bits_Mul64 x y hx.out hy.out W)
  have hb : Below w.heap.size w (w.alloc (.cells #[.int .u64 0, .int .u64 0] 42)) := (Below.refl _ _).alloc (Nat.le_refl _) _
  generalize x * y / 18446744073709551616 = p at *
  generalize x * y % 18446744073709551616 = q at *
  go_enter Try.func19, Try.ntmps19
  go_wp2_with fail
  refine (HM _).out.mono ?_
  rintro e w1 ⟨rfl, rfl⟩
  go_wp2
  exact bodyPost_ret (v := .agg #[.int .u64 (p : Int), .int .u64 (q : Int)]) (by simp [results, Try.results19, go_sem]) rfl ⟨rfl, (Below.refl _ _).alloc (Nat.le_refl _) _⟩

def lexGt (a b c d : Nat) : Bool := if a = c then decide (d < b) else decide (c < a)

theorem above20 (a b c d : Nat) (w : World) :
    Calls Try.prog 20 #[.agg #[.int .u64 (a : Int), .int .u64 (b : Int)], .agg #[.int .u64 (c : Int), .int .u64 (d : Int)]] w fun r w' => r = .returned (.bool (lexGt a b c d)) ∧ Below w.heap.size w w' := by
  have hb : Below w.heap.size w ((w.alloc (.cells #[.int .u64 (a : Int), .int .u64 (b : Int)] 42)).alloc (.cells #[.int .u64 (c : Int), .int .u64 (d : Int)] 42)) := ((Below.refl _ _).alloc (Nat.le_refl _) _).alloc (by simp) _
  have HB := Lib.hid hb; clear hb
  by_cases he : a = c
  · subst he
    have HV : Hid (lexGt a b a d = decide (d < b)) := if_pos rfl
    go_enter Try.func20, Try.ntmps20
    go_wp2
    go_ret
    exact ⟨congrArg (fun x => Ending.returned (.bool x)) (by simp [HV.out]), HB.out⟩
  · have hne : ((a : Int) != (c : Int)) = true := by rw [bne_iff_ne]; omega
    have HV : Hid (lexGt a b c d = decide (c < a)) := if_neg he
    clear he
    go_enter Try.func20, Try.ntmps20
    go_wp2
    go_ret
    exact ⟨congrArg (fun x => Ending.returned (.bool x)) (by simp [HV.out]), HB.out⟩

/-- whether an owner lies as near as others do -/
def nearL (me : Ent) (l : List Peer) (key : UInt64) (ow : Ent) : Bool :=
  decide (l.length = 0) || decide ((dist key ow.id).toNat * l.length ≤ (spanL me l).toNat * 64)

theorem wrap_u64_nat (n : Nat) (h : n < 18446744073709551616) : IntKind.u64.wrap (n : Int) = (n : Int) := by rw [IntKind.wrap_u64]; omega

theorem lex_le (A B : Nat) : (!lexGt (A / 18446744073709551616) (A % 18446744073709551616) (B / 18446744073709551616) (B % 18446744073709551616)) = decide (A ≤ B) := by
  unfold lexGt
  split <;> rw [← decide_not, decide_eq_decide] <;> omega

theorem near12_nil (me ow : Ent) (oa : Option Addr) (c : Nat) (key : UInt64) (w : World) :
    Calls Try.prog 12 #[.agg #[.string me.name, .int .u64 (me.id.toNat : Int), .int .i64 me.frm, .int .i64 me.til, .int .i64 me.idx, .string me.tag], .slice oa 0 c, .int .u64 (key.toNat : Int), .agg #[.string ow.name, .int .u64 (ow.id.toNat : Int), .int .i64 ow.frm, .int .i64 ow.til, .int .i64 ow.idx, .string ow.tag]] w fun r w' => r = .returned (.bool (nearL me [] key ow)) ∧ Below w.heap.size w w' := by
  have hb : Below w.heap.size w ((w.alloc (.cells #[.string me.name, .int .u64 (me.id.toNat : Int), .int .i64 me.frm, .int .i64 me.til, .int .i64 me.idx, .string me.tag] 24)).alloc (.cells #[.string ow.name, .int .u64 (ow.id.toNat : Int), .int .i64 ow.frm, .int .i64 ow.til, .int .i64 ow.idx, .string ow.tag] 24)) := ((Below.refl _ _).alloc (Nat.le_refl _) _).alloc (by simp) _
  have HB := Lib.hid hb; clear hb
  go_enter Try.func12, Try.ntmps12
  go_wp2
  go_ret
  exact ⟨rfl, HB.out⟩

set_option maxRecDepth 100000 in
theorem near12_some (me ow : Ent) (oa : Option Addr) (n c : Nat) (l : List Peer) (key : UInt64) (w : World) (h : RowsOf Peer.cells w oa n l) (hn : n ≤ 140737488351232) (hpos : 0 < n) :
    Calls Try.prog 12 #[.agg #[.string me.name, .int .u64 (me.id.toNat : Int), .int .i64 me.frm, .int .i64 me.til, .int .i64 me.idx, .string me.tag], .slice oa n c, .int .u64 (key.toNat : Int), .agg #[.string ow.name, .int .u64 (ow.id.toNat : Int), .int .i64 ow.frm, .int .i64 ow.til, .int .i64 ow.idx, .string ow.tag]] w fun r w' => r = .returned (.bool (nearL me l key ow)) ∧ Below w.heap.size w w' := by
  have HV : Hid (nearL me l key ow = decide ((dist key ow.id).toNat * n ≤ (spanL me l).toNat * 64)) := by
    show _ = _
    have hl := h.len
    unfold nearL
    rw [decide_eq_false (show ¬ l.length = 0 by omega), Bool.false_or, hl]
  have H : Hid (∀ W, Below w.heap.size w W → RowsOf Peer.cells W oa n l) := fun W hb => h.below hb
  clear h
  have HX : Hid ((dist key ow.id).toNat < 18446744073709551616) := (dist key ow.id).toNat_lt
  have HS : Hid ((spanL me l).toNat < 18446744073709551616) := (spanL me l).toNat_lt
  have HN : Hid (n < 18446744073709551616) := by show _ < _; omega
  have H64 : Hid (64 < 18446744073709551616) := by show _ < _; omega
  have hne : ((n : Int) == 0) = false := by rw [beq_eq_false_iff_ne]; omega
  have h0 : Below w.heap.size w ((w.alloc (.cells #[.string me.name, .int .u64 (me.id.toNat : Int), .int .i64 me.frm, .int .i64 me.til, .int .i64 me.idx, .string me.tag] 24)).alloc (.cells #[.string ow.name, .int .u64 (ow.id.toNat : Int), .int .i64 ow.frm, .int .i64 ow.til, .int .i64 ow.idx, .string ow.tag] 24)) := ((Below.refl _ _).alloc (Nat.le_refl _) _).alloc (by simp) _
  go_enter Try.func12, Try.ntmps12
  go_wp2_with fail
  refine wp_region_seq [(0, true), (1, true), (2, true), (4, true), (5, true), (6, true), (8, true), (9, true), (3, false), (7, false), (10, false), (11, false), (12, false), (13, true), (14, true)] (by kernel_rfl) (by kernel_rfl) (fun _ _ dd _ _ h => by cases dd <;> exact h) ?_
  intro W0 hW0
  have h1 : Below w.heap.size w W0 := hW0 ▸ h0.drew
  have cme0 : ∀ W, Below W0.heap.size W0 W → W.cell? ⟨w.heap.size, 0, none⟩ = some (.string me.name) := fun W hb => cell_later hb (by rw [hW0]; simp [World.cell?_alloc_at, World.cell?_alloc_past])
  have cme1 : ∀ W, Below W0.heap.size W0 W → W.cell? ⟨w.heap.size, 1, none⟩ = some (.int .u64 (me.id.toNat : Int)) := fun W hb => cell_later hb (by rw [hW0]; simp [World.cell?_alloc_at, World.cell?_alloc_past])
  have cme2 : ∀ W, Below W0.heap.size W0 W → W.cell? ⟨w.heap.size, 2, none⟩ = some (.int .i64 me.frm) := fun W hb => cell_later hb (by rw [hW0]; simp [World.cell?_alloc_at, World.cell?_alloc_past])
  have cme3 : ∀ W, Below W0.heap.size W0 W → W.cell? ⟨w.heap.size, 3, none⟩ = some (.int .i64 me.til) := fun W hb => cell_later hb (by rw [hW0]; simp [World.cell?_alloc_at, World.cell?_alloc_past])
  have cme4 : ∀ W, Below W0.heap.size W0 W → W.cell? ⟨w.heap.size, 4, none⟩ = some (.int .i64 me.idx) := fun W hb => cell_later hb (by rw [hW0]; simp [World.cell?_alloc_at, World.cell?_alloc_past])
  have cme5 : ∀ W, Below W0.heap.size W0 W → W.cell? ⟨w.heap.size, 5, none⟩ = some (.string me.tag) := fun W hb => cell_later hb (by rw [hW0]; simp [World.cell?_alloc_at, World.cell?_alloc_past])
  have cow0 : ∀ W, Below W0.heap.size W0 W → W.cell? ⟨w.heap.size + 1, 0, none⟩ = some (.string ow.name) := fun W hb => cell_later hb (by rw [hW0]; simp [World.cell?_alloc_at, World.cell?_alloc_past])
  have cow1 : ∀ W, Below W0.heap.size W0 W → W.cell? ⟨w.heap.size + 1, 1, none⟩ = some (.int .u64 (ow.id.toNat : Int)) := fun W hb => cell_later hb (by rw [hW0]; simp [World.cell?_alloc_at, World.cell?_alloc_past])
  have cow2 : ∀ W, Below W0.heap.size W0 W → W.cell? ⟨w.heap.size + 1, 2, none⟩ = some (.int .i64 ow.frm) := fun W hb => cell_later hb (by rw [hW0]; simp [World.cell?_alloc_at, World.cell?_alloc_past])
  have cow3 : ∀ W, Below W0.heap.size W0 W → W.cell? ⟨w.heap.size + 1, 3, none⟩ = some (.int .i64 ow.til) := fun W hb => cell_later hb (by rw [hW0]; simp [World.cell?_alloc_at, World.cell?_alloc_past])
  have cow4 : ∀ W, Below W0.heap.size W0 W → W.cell? ⟨w.heap.size + 1, 4, none⟩ = some (.int .i64 ow.idx) := fun W hb => cell_later hb (by rw [hW0]; simp [World.cell?_alloc_at, World.cell?_alloc_past])
  have cow5 : ∀ W, Below W0.heap.size W0 W → W.cell? ⟨w.heap.size + 1, 5, none⟩ = some (.string ow.tag) := fun W hb => cell_later hb (by rw [hW0]; simp [World.cell?_alloc_at, World.cell?_alloc_past])
  clear hW0 h0
  (refine seq_take (d := 12) (v := ?_) rfl rfl rfl ?_ ?_; rotate_left; (focus ((intro w' hb0 hw'; go_simp) <;> with_reducible rfl)); simp only [Act.put, List.setIfInBounds_toArray, List.set_cons_zero, List.set_cons_succ])
  (refine seq_take (d := 13) (v := ?_) rfl rfl rfl ?_ ?_; rotate_left; (focus ((intro w' hb0 hw'; go_simp) <;> with_reducible rfl)); simp only [Act.put, List.setIfInBounds_toArray, List.set_cons_zero, List.set_cons_succ])
  (refine seq_take (d := 14) (v := ?_) rfl rfl rfl ?_ ?_; rotate_left; (focus ((intro w' hb0 hw'; go_simp) <;> with_reducible rfl)); simp only [Act.put, List.setIfInBounds_toArray, List.set_cons_zero, List.set_cons_succ])
  (refine seq_take (d := 16) (v := ?_) rfl rfl rfl ?_ ?_; rotate_left; (focus ((intro w' hb0 hw'; go_simp) <;> with_reducible rfl)); simp only [Act.put, List.setIfInBounds_toArray, List.set_cons_zero, List.set_cons_succ])
  (refine seq_take (d := 17) (v := ?_) rfl rfl rfl ?_ ?_; rotate_left; (focus ((intro w' hb0 hw'; go_simp) <;> with_reducible rfl)); simp only [Act.put, List.setIfInBounds_toArray, List.set_cons_zero, List.set_cons_succ])
  (refine seq_take (d := 18) (v := ?_) rfl rfl rfl ?_ ?_; rotate_left; (focus ((intro w' hb0 hw'; go_simp) <;> with_reducible rfl)); simp only [Act.put, List.setIfInBounds_toArray, List.set_cons_zero, List.set_cons_succ])
  (refine seq_take (d := 20) (v := ?_) rfl rfl rfl ?_ ?_; rotate_left; (focus ((intro w' hb0 hw'; go_simp) <;> with_reducible rfl)); simp only [Act.put, List.setIfInBounds_toArray, List.set_cons_zero, List.set_cons_succ])
  (refine seq_take (d := 21) (v := ?_) rfl rfl rfl ?_ ?_; rotate_left; (focus ((intro w' hb0 hw'; go_simp) <;> with_reducible rfl)); simp only [Act.put, List.setIfInBounds_toArray, List.set_cons_zero, List.set_cons_succ])
  refine seq_do rfl rfl (fun K hK => ?_)
  go_simp
  refine (dist16 _ _ _).mono ?_
  rintro r w2 ⟨rfl, rfl⟩
  refine hK _ _ (Below.refl _ _) ?_
  clear hK K
  refine seq_do rfl rfl (fun K hK => ?_)
  go_simp
  rw [wrap_u64_nat n HN.out]
  refine (times19 _ n _ HX HN).mono ?_
  rintro r w2 ⟨rfl, hb2⟩
  have h2 := below_step (W := w) (by assumption) hb2
  refine hK _ _ hb2 ?_
  clear hb2 hK K
  refine seq_do rfl rfl (fun K hK => ?_)
  go_simp
  refine (span9 me _ _ _ l _ (H.out _ (by assumption)) hn).mono ?_
  rintro r w3 ⟨rfl, hb3⟩
  have h3 := below_step (W := w) (by assumption) hb3
  refine hK _ _ hb3 ?_
  clear hb3 hK K
  refine seq_do rfl rfl (fun K hK => ?_)
  go_simp
  refine (times19 _ 64 _ HS H64).mono ?_
  rintro r w4 ⟨rfl, hb4⟩
  have h4 := below_step (W := w) (by assumption) hb4
  refine hK _ _ hb4 ?_
  clear hb4 hK K
  refine seq_do rfl rfl (fun K hK => ?_)
  go_simp
  refine (above20 _ _ _ _ _).mono ?_
  rintro r w5 ⟨rfl, hb5⟩
  have h5 := below_step (W := w) (by assumption) hb5
  refine hK _ _ hb5 ?_
  clear hb5 hK K
  (refine seq_take (d := 25) (v := ?_) rfl rfl rfl ?_ ?_; rotate_left; (focus ((intro w' hb0 hw'; go_simp) <;> with_reducible rfl)); simp only [Act.put, List.setIfInBounds_toArray, List.set_cons_zero, List.set_cons_succ])
  (refine seq_take (d := 8) (v := ?_) rfl rfl rfl ?_ ?_; rotate_left; (focus ((intro w' hb0 hw'; go_simp) <;> with_reducible rfl)); simp only [Act.put, List.setIfInBounds_toArray, List.set_cons_zero, List.set_cons_succ])
  refine seq_end ?_
  go_wp2
  go_ret
  refine ⟨congrArg (fun x => Ending.returned (.bool x)) ?_, h5⟩
  rw [HV.out]
  exact lex_le _ _

theorem near12 (me ow : Ent) (oa : Option Addr) (n c : Nat) (l : List Peer) (key : UInt64) (w : World) (h : RowsOf Peer.cells w oa n l) (hn : n ≤ 140737488351232) :
    Calls Try.prog 12 #[.agg #[.string me.name, .int .u64 (me.id.toNat : Int), .int .i64 me.frm, .int .i64 me.til, .int .i64 me.idx, .string me.tag], .slice oa n c, .int .u64 (key.toNat : Int), .agg #[.string ow.name, .int .u64 (ow.id.toNat : Int), .int .i64 ow.frm, .int .i64 ow.til, .int .i64 ow.idx, .string ow.tag]] w fun r w' => r = .returned (.bool (nearL me l key ow)) ∧ Below w.heap.size w w' := by
  by_cases h0 : n = 0
  · subst h0
    obtain rfl : l = [] := List.eq_nil_of_length_eq_zero h.len.symm
    exact near12_nil me ow oa c key w
  · exact near12_some me ow oa n c l key w h hn (by omega)

def suspect (b : Bool) : Int := if b then 0 else 42

theorem check11 (me ow : Ent) (oa : Option Addr) (n c : Nat) (l : List Peer) (key : UInt64) (w : World) (h : RowsOf Peer.cells w oa n l) (hn : n ≤ 140737488351232) :
    Calls Try.prog 11 #[.agg #[.string me.name, .int .u64 (me.id.toNat : Int), .int .i64 me.frm, .int .i64 me.til, .int .i64 me.idx, .string me.tag], .slice oa n c, .int .u64 (key.toNat : Int), .agg #[.string ow.name, .int .u64 (ow.id.toNat : Int), .int .i64 ow.frm, .int .i64 ow.til, .int .i64 ow.idx, .string ow.tag]] w fun r w' => r = .returned (.int .i64 (suspect (nearL me l key ow))) ∧ Below w.heap.size w w' := by
  have hb : Below w.heap.size w ((w.alloc (.cells #[.string me.name, .int .u64 (me.id.toNat : Int), .int .i64 me.frm, .int .i64 me.til, .int .i64 me.idx, .string me.tag] 24)).alloc (.cells #[.string ow.name, .int .u64 (ow.id.toNat : Int), .int .i64 ow.frm, .int .i64 ow.til, .int .i64 ow.idx, .string ow.tag] 24)) := ((Below.refl _ _).alloc (Nat.le_refl _) _).alloc (by simp) _
  have hr := h.below hb
  have HR := Lib.hid hr; have HB := Lib.hid hb; clear hb hr h
  go_enter Try.func11, Try.ntmps11
  go_wp2_with fail
  refine (near12 me ow _ _ _ l key _ HR.out hn).mono ?_
  rintro r w1 ⟨rfl, hb1⟩
  have HB1 := Lib.hid (below_step HB.out hb1); clear hb1
  cases hx : nearL me l key ow
  all_goals
    have HX := Lib.hid hx; clear hx
    go_wp2
    go_ret
    exact ⟨congrArg (fun x => Ending.returned (.int .i64 x)) (by rw [HX.out]; rfl), HB1.out⟩

end Go.Proofs.Ytpefeoneafddkaa
