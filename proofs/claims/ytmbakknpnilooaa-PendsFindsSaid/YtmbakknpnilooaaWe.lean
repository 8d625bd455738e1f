/-
  Copies.
-/
import Derived.Test.YtmbakknpnilooaaWa
namespace Go.Proofs.Ytmbakknpnilooaa
open Go.RowKit Go.Proofs.Ytmbakknpnilooaa.Plan Go.Proofs.Ytmbakknpnilooaa.Eager
set_option maxHeartbeats 4000000
set_option maxRecDepth 20000
set_option linter.unusedVariables false
set_option linter.unusedSimpArgs false

theorem el22 : Elem Try.prog 22 32 23 240 := Elem.of (.agg (Pd.cells ⟨0, 0, 0, 0, 0, 0, ⟨⟨#[]⟩, 0, 0, 0, 0, ⟨#[]⟩⟩, ⟨⟨0, 0, 0, 0, 0, false, false, ⟨#[]⟩, ⟨#[]⟩, [], []⟩, none, 0, none, 0⟩⟩).toArray) rfl (by kernel_rfl) rfl (by omega)
theorem el27 : Elem Try.prog 27 25 6 64 := Elem.of (.agg #[.string ⟨#[]⟩, .int .u64 0, .int .i64 0, .int .i64 0, .int .i64 0, .string ⟨#[]⟩]) rfl (by kernel_rfl) rfl (by omega)
theorem el28 : Elem Try.prog 28 68 4 48 := Elem.of (.agg #[.string ⟨#[]⟩, .string ⟨#[]⟩, .int .i64 0, .bool false]) rfl (by kernel_rfl) rfl (by omega)

theorem eq_nil27 (w : World) (a : Option Addr) (n c : Nat) : (binOp .eql 27 (.slice a n c) (.slice none 0 0)).run Try.prog w = .ok (.bool a.isNone) w := by
  have h : Try.prog.underlying 27 = some (.slice 25) := by kernel_rfl
  first | exact Lib.run_eql_slice_nil w 27 25 a n c 0 0 h | exact Go.run_eql_slice_nil w 27 25 a n c h
theorem clone46 (l : List En) (w : World) (oa : Option Addr) (n c : Nat) (h : REn w oa n c l) (hl : l.length ≤ 100) :
    Calls Try.prog 46 #[.slice oa n c] w fun r w' => ∃ oo cc, r = .returned (.slice oo l.length cc) ∧ REn w' oo l.length cc l ∧ (∀ a, oo = some a → w.heap.size ≤ a.block) ∧ Below w.heap.size w w' := by
  obtain rfl : n = l.length := h.rows.len
  have H := Lib.hid h; have HL := Lib.hid hl; clear h hl
  cases oa with
  | none =>
    have hnil : l = [] := by
      have h1 := H.out.rows.cells.none_nil
      have h2 := en_len l
      rw [h1] at h2
      exact List.eq_nil_of_length_eq_zero (by simp at h2; omega)
    subst hnil
    have q := fun W => eq_nil27 W none 0 c
    simp only [Option.isNone_none] at q
    go_enter Try.func46, Try.ntmps46
    go_wp2
    refine bodyPost_ret (v := .slice none 0 0) (by simp [results, Try.results46, go_sem]) rfl ⟨_, _, rfl, Rws.nil _ _, (fun _ h => by cases h), Below.refl _ _⟩
  | some a =>
    have hal : Below w.heap.size w (w.alloc (.cells ([] : List Value).toArray 25)) := (Below.refl _ _).alloc (Nat.le_refl _) _
    have HO : Hid (Own (w.alloc (.cells ([] : List Value).toArray 25)) w.heap.size 25 6 (.slice (some ⟨w.heap.size, 0, none⟩) 0 0) 0 []) := Own.lit w [] 25 6 0 (by simp) rfl _ (Nat.le_refl _)
    have HAL := Lib.hid hal
    have HH2 := Lib.hid (H.out.below hal)
    clear hal
    have q := fun W => eq_nil27 W (some a) l.length c
    simp only [Option.isNone_some] at q
    go_enter Try.func46, Try.ntmps46
    go_wp2_with (refine stop_append rfl ?_)
    have hl3 := HL.out
    refine ⟨wpList_app el27 rfl (by rfl) (by rfl) HO.out (by rfl) (m := l.length) (by rw [en_len]) HH2.out.rows.cells (flat_one en_one l) (by simp [maxLen]; omega) (by omega) HAL.out.size ?_⟩
    intro v5 W5 hO5 hg5
    have hb5 := HO.out.below hg5 HAL.out (Nat.le_refl _) HAL.out.size
    have hO6 : Own W5 w.heap.size 25 6 v5 l.length (l.flatMap En.cells) := by simpa using hO5
    obtain ⟨oo, cc, rfl, hR⟩ := Own.rws hO6 rfl
    have HR := Lib.hid hR
    have HGE : Hid (∀ a, oo = some a → w.heap.size ≤ a.block) := fun a e => by subst e; exact hO6.ge
    have HB5 := Lib.hid hb5
    clear hO5 hO6 hg5 hb5 HO HAL HH2 hl3 hR
    go_wp2
    refine bodyPost_ret (v := .slice oo l.length cc) (by simp [results, Try.results46, go_sem]) rfl ⟨_, _, rfl, HR.out, HGE.out, HB5.out⟩

theorem eq_nil28 (w : World) (a : Option Addr) (n c : Nat) : (binOp .eql 28 (.slice a n c) (.slice none 0 0)).run Try.prog w = .ok (.bool a.isNone) w := by
  have h : Try.prog.underlying 28 = some (.slice 68) := by kernel_rfl
  first | exact Lib.run_eql_slice_nil w 28 68 a n c 0 0 h | exact Go.run_eql_slice_nil w 28 68 a n c h
theorem clone47 (l : List It) (w : World) (oa : Option Addr) (n c : Nat) (h : RIt w oa n c l) (hl : l.length ≤ 100) :
    Calls Try.prog 47 #[.slice oa n c] w fun r w' => ∃ oo cc, r = .returned (.slice oo l.length cc) ∧ RIt w' oo l.length cc l ∧ (∀ a, oo = some a → w.heap.size ≤ a.block) ∧ Below w.heap.size w w' := by
  obtain rfl : n = l.length := h.rows.len
  have H := Lib.hid h; have HL := Lib.hid hl; clear h hl
  cases oa with
  | none =>
    have hnil : l = [] := by
      have h1 := H.out.rows.cells.none_nil
      have h2 := it_len l
      rw [h1] at h2
      exact List.eq_nil_of_length_eq_zero (by simp at h2; omega)
    subst hnil
    have q := fun W => eq_nil28 W none 0 c
    simp only [Option.isNone_none] at q
    go_enter Try.func47, Try.ntmps47
    go_wp2
    refine bodyPost_ret (v := .slice none 0 0) (by simp [results, Try.results47, go_sem]) rfl ⟨_, _, rfl, Rws.nil _ _, (fun _ h => by cases h), Below.refl _ _⟩
  | some a =>
    have hal : Below w.heap.size w (w.alloc (.cells ([] : List Value).toArray 68)) := (Below.refl _ _).alloc (Nat.le_refl _) _
    have HO : Hid (Own (w.alloc (.cells ([] : List Value).toArray 68)) w.heap.size 68 4 (.slice (some ⟨w.heap.size, 0, none⟩) 0 0) 0 []) := Own.lit w [] 68 4 0 (by simp) rfl _ (Nat.le_refl _)
    have HAL := Lib.hid hal
    have HH2 := Lib.hid (H.out.below hal)
    clear hal
    have q := fun W => eq_nil28 W (some a) l.length c
    simp only [Option.isNone_some] at q
    go_enter Try.func47, Try.ntmps47
    go_wp2_with (refine stop_append rfl ?_)
    have hl3 := HL.out
    refine ⟨wpList_app el28 rfl (by rfl) (by rfl) HO.out (by rfl) (m := l.length) (by rw [it_len]) HH2.out.rows.cells (flat_one it_one l) (by simp [maxLen]; omega) (by omega) HAL.out.size ?_⟩
    intro v5 W5 hO5 hg5
    have hb5 := HO.out.below hg5 HAL.out (Nat.le_refl _) HAL.out.size
    have hO6 : Own W5 w.heap.size 68 4 v5 l.length (l.flatMap It.cells) := by simpa using hO5
    obtain ⟨oo, cc, rfl, hR⟩ := Own.rws hO6 rfl
    have HR := Lib.hid hR
    have HGE : Hid (∀ a, oo = some a → w.heap.size ≤ a.block) := fun a e => by subst e; exact hO6.ge
    have HB5 := Lib.hid hb5
    clear hO5 hO6 hg5 hb5 HO HAL HH2 hl3 hR
    go_wp2
    refine bodyPost_ret (v := .slice oo l.length cc) (by simp [results, Try.results47, go_sem]) rfl ⟨_, _, rfl, HR.out, HGE.out, HB5.out⟩

theorem eq_nil22 (w : World) (a : Option Addr) (n c : Nat) : (binOp .eql 22 (.slice a n c) (.slice none 0 0)).run Try.prog w = .ok (.bool a.isNone) w := by
  have h : Try.prog.underlying 22 = some (.slice 32) := by kernel_rfl
  first | exact Lib.run_eql_slice_nil w 22 32 a n c 0 0 h | exact Go.run_eql_slice_nil w 22 32 a n c h
theorem clone30 (l : List Pd) (w : World) (oa : Option Addr) (n c : Nat) (h : Rws Pd.cells w oa n c l) (hl : l.length ≤ 900) :
    Calls Try.prog 30 #[.slice oa n c] w fun r w' => ∃ v, r = .returned v ∧ Own w' w.heap.size 32 23 v l.length (l.flatMap Pd.cells) ∧ Below w.heap.size w w' := by
  obtain rfl : n = l.length := h.rows.len
  have H := Lib.hid h; have HL := Lib.hid hl; clear h hl
  cases oa with
  | none =>
    have hnil : l = [] := by
      have h1 := H.out.rows.cells.none_nil
      have h2 := pd_len l
      rw [h1] at h2
      exact List.eq_nil_of_length_eq_zero (by simp at h2; omega)
    subst hnil
    have q := fun W => eq_nil22 W none 0 c
    simp only [Option.isNone_none] at q
    go_enter Try.func30, Try.ntmps30
    go_wp2
    refine bodyPost_ret (v := .slice none 0 0) (by simp [results, Try.results30, go_sem]) rfl ⟨_, rfl, Own.nil _ _ _ _, Below.refl _ _⟩
  | some a =>
    have hal : Below w.heap.size w (w.alloc (.cells ([] : List Value).toArray 32)) := (Below.refl _ _).alloc (Nat.le_refl _) _
    have HO : Hid (Own (w.alloc (.cells ([] : List Value).toArray 32)) w.heap.size 32 23 (.slice (some ⟨w.heap.size, 0, none⟩) 0 0) 0 []) := Own.lit w [] 32 23 0 (by simp) rfl _ (Nat.le_refl _)
    have HAL := Lib.hid hal
    have HH2 := Lib.hid (H.out.below hal)
    clear hal
    have q := fun W => eq_nil22 W (some a) l.length c
    simp only [Option.isNone_some] at q
    go_enter Try.func30, Try.ntmps30
    go_wp2_with (refine stop_append rfl ?_)
    have hl3 := HL.out
    refine ⟨wpList_app el22 rfl (by rfl) (by rfl) HO.out (by rfl) (m := l.length) (by rw [pd_len]) HH2.out.rows.cells (flat_one pd_one l) (by simp [maxLen]; omega) (by omega) HAL.out.size ?_⟩
    intro v5 W5 hO5 hg5
    have hb5 := HO.out.below hg5 HAL.out (Nat.le_refl _) HAL.out.size
    have hO6 : Own W5 w.heap.size 32 23 v5 l.length (l.flatMap Pd.cells) := by simpa using hO5
    have HO5 := Lib.hid hO6; have HB5 := Lib.hid hb5
    clear hO5 hO6 hg5 hb5 HO HAL HH2 hl3
    go_wp2
    refine bodyPost_ret (v := v5) (by simp [results, Try.results30, go_sem]) rfl ⟨_, rfl, HO5.out, HB5.out⟩
def mg0 : Mg := ⟨⟨0, 0, 0, 0, 0, false, false, ⟨#[]⟩, ⟨#[]⟩, [], []⟩, none, 0, none, 0⟩

theorem Cells.grownOff {w w' : World} {oa : Option Addr} {cs : List Value} {row : Option Nat} (h : Cells w oa cs) (hg : w.grownBy w' row) (hne : ∀ a, oa = some a → row ≠ some a.block) : Cells w' oa cs := by
  intro i hi
  obtain ⟨b, o, e, hlt, hc⟩ := h.at' hi
  refine ⟨b, o, e, ?_⟩
  have hcell := hc
  rw [World.cell?_of_block (w := w) (a := ⟨b, o + i, none⟩) (hg.block b hlt (fun e2 => hne _ e e2.symm)), hcell, List.getElem?_eq_getElem hi]
theorem Rws.grownOff {α : Type} {f : α → List Value} {w w' : World} {oa : Option Addr} {n c : Nat} {l : List α} {row : Option Nat} (h : Rws f w oa n c l) (hg : w.grownBy w' row) (hne : ∀ a, oa = some a → row ≠ some a.block) : Rws f w' oa n c l :=
  ⟨⟨h.rows.len, h.rows.cells.grownOff hg hne⟩, h.le, h.cap⟩
/-- its lists do not lie there -/
structure Mg.Off (m : Mg) (row : Option Nat) : Prop where
  es : ∀ a, m.eo = some a → row ≠ some a.block
  its : ∀ a, m.io = some a → row ≠ some a.block
theorem Mg.Good.grown {w w' : World} {m : Mg} {row : Option Nat} (h : m.Good w) (ho : m.Off row) (hg : w.grownBy w' row) : m.Good w' := ⟨h.es.grownOff hg ho.es, h.its.grownOff hg ho.its⟩
/-- its lists lie from there on -/
structure Mg.Ge (m : Mg) (B : Nat) : Prop where
  es : ∀ a, m.eo = some a → B ≤ a.block
  its : ∀ a, m.io = some a → B ≤ a.block
theorem Mg.Ge.off {m : Mg} {B b : Nat} (h : m.Ge B) (hb : b < B) : m.Off (some b) := ⟨fun a e h2 => by injection h2 with h2; have := h.es a e; omega, fun a e h2 => by injection h2 with h2; have := h.its a e; omega⟩
theorem Mg.Ge.mono {m : Mg} {B C : Nat} (h : m.Ge B) (hb : C ≤ B) : m.Ge C := ⟨fun a e => Nat.le_trans hb (h.es a e), fun a e => Nat.le_trans hb (h.its a e)⟩
structure MCopy (w : World) (m m' : Mg) (w' : World) : Prop where
  c : m'.c = m.c
  good : m'.Good w'
  ge : m'.Ge w.heap.size
theorem msgCopy31 (m : Mg) (w : World) (hg : m.Good w) (hs : m.small) :
    Calls Try.prog 31 #[.agg m.cells.toArray] w fun r w' => ∃ m', r = .returned (.agg m'.cells.toArray) ∧ MCopy w m m' w' ∧ Below w.heap.size w w' := by
  have hal : Below w.heap.size w ((w.alloc (.cells m.cells.toArray 30)).alloc (.cells mg0.cells.toArray 30)) := by (with_reducible try refine Lib.hid ?_); (repeat (with_reducible first | assumption | exact Below.refl _ _ | apply Below.drew | apply Below.drewN' | apply Below.setCell | apply Below.alloc)) <;> (try simp [length_fillTo, length_turnTo]) <;> (try omega)
  have hX : Blk ((w.alloc (.cells m.cells.toArray 30)).alloc (.cells mg0.cells.toArray 30)) w.heap.size m.cells := Blk.alloc (Blk.new' rfl) _
  have hY : Blk ((w.alloc (.cells m.cells.toArray 30)).alloc (.cells mg0.cells.toArray 30)) (w.heap.size + 1) mg0.cells := by
    have := Blk.new' (w := w.alloc (.cells m.cells.toArray 30)) (cs := mg0.cells) (e := 30) rfl
    simpa using this
  have HG := Lib.hid (hg.below hal); have HS := Lib.hid hs
  have HB := Lib.hid hal; have HX := Lib.hid hX; have HY := Lib.hid hY
  clear hal hX hY hg hs
  go_enter Try.func31, Try.ntmps31
  go_wp2
  refine wp_region_plan none [7, 8, 9] [] (.take 0 (.take 1 (.take 3 (.take 4 (.one 2 (.take 6 (.one 5 (.tail [7, 8, 9])))))))) (by kernel_rfl) (by kernel_rfl) (fun _ _ dd _ _ h => by cases dd <;> exact h) ?_
  intro W0 hW0
  have hbW : Below w.heap.size w W0 := by rw [hW0]; exact HB.out.drew
  have hX : Blk W0 w.heap.size m.cells := by rw [hW0]; exact HX.out.drew
  have hY : Blk W0 (w.heap.size + 1) mg0.cells := by rw [hW0]; exact HY.out.drew
  have hG : m.Good W0 := by rw [hW0]; exact HG.out.below (below_drew _)
  have hsz : w.heap.size + 2 ≤ W0.heap.size := by have := hY.lt; omega
  have hE := hG.es; have hI := hG.its
  clear hW0 hG
  generalize W0 = Wz at *
  (refine pl_take (d := 3) (v := ?_) rfl rfl rfl ?_ ?_; rotate_left; (focus ((intro w' hb0 hw'; go_simp) <;> with_reducible rfl)); simp only [Act.put, List.setIfInBounds_toArray, List.set_cons_zero, List.set_cons_succ])
  (refine pl_take (d := 4) (v := ?_) rfl rfl rfl ?_ ?_; rotate_left; (focus ((intro w' hb0 hw'; have x9 : w'.cell? ⟨w.heap.size, 9, none⟩ = some (.slice m.eo m.c.es.length m.ec) := mg_at (hX.later hw') 9 (by omega); go_simp) <;> with_reducible rfl)); simp only [Act.put, List.setIfInBounds_toArray, List.set_cons_zero, List.set_cons_succ])
  (refine pl_take (d := 6) (v := ?_) rfl rfl rfl ?_ ?_; rotate_left; (focus ((intro w' hb0 hw'; go_simp) <;> with_reducible rfl)); simp only [Act.put, List.setIfInBounds_toArray, List.set_cons_zero, List.set_cons_succ])
  (refine pl_take (d := 7) (v := ?_) rfl rfl rfl ?_ ?_; rotate_left; (focus ((intro w' hb0 hw'; have x10 : w'.cell? ⟨w.heap.size, 10, none⟩ = some (.slice m.io m.c.its.length m.ic) := mg_at (hX.later hw') 10 (by omega); go_simp) <;> with_reducible rfl)); simp only [Act.put, List.setIfInBounds_toArray, List.set_cons_zero, List.set_cons_succ])
  refine pl_one rfl rfl (fun K hK => ?_)
  go_simp
  refine (clone46 m.c.es Wz m.eo _ m.ec hE (by have := HS.out.1; omega)).mono ?_
  rintro r Wv ⟨po, pc, rfl, hp, gp, hbk0⟩
  refine hK _ _ (hbk0 : Rel none Wz Wv) ?_
  clear hK
  replace gp : ∀ a, po = some a → w.heap.size + 2 ≤ a.block := fun a e => Nat.le_trans hsz (gp a e)
  replace hbW := below_step hbW hbk0; replace hX := hX.later hbk0; replace hY := hY.later hbk0
  replace hI := hI.below hbk0
  replace hsz := Nat.le_trans hsz hbk0.size
  clear hbk0
  generalize Wv = Wz at *
  (refine pl_take (d := 9) (v := ?_) rfl rfl rfl ?_ ?_; rotate_left; (focus ((intro w' hb0 hw'; go_simp) <;> with_reducible rfl)); simp only [Act.put, List.setIfInBounds_toArray, List.set_cons_zero, List.set_cons_succ])
  refine pl_one rfl rfl (fun K hK => ?_)
  go_simp
  refine (clone47 m.c.its Wz m.io _ m.ic hI (by have := HS.out.2; omega)).mono ?_
  rintro r Wv ⟨qo, qc, rfl, hq, gq, hbk0⟩
  refine hK _ _ (hbk0 : Rel none Wz Wv) ?_
  clear hK
  replace gq : ∀ a, qo = some a → w.heap.size + 2 ≤ a.block := fun a e => Nat.le_trans hsz (gq a e)
  replace hbW := below_step hbW hbk0; replace hX := hX.later hbk0; replace hY := hY.later hbk0
  replace hp := hp.below hbk0
  replace hsz := Nat.le_trans hsz hbk0.size
  clear hbk0
  generalize Wv = Wz at *
  refine pl_tail ?_
  refine tl_do rfl rfl (fun K hK => ?_)
  have x9 : Wz.cell? ⟨w.heap.size, 9, none⟩ = some (.slice m.eo m.c.es.length m.ec) := mg_at hX 9 (by omega)
  have fz := hX.froz 9
  have hxl := hX.lt
  have hg7 : Wz.grownBy (Wz.setCell ⟨w.heap.size, 9, none⟩ (.slice po m.c.es.length pc)) (some w.heap.size) := setCells_grown w.heap.size [.slice po m.c.es.length pc] 9 Wz
  go_simp
  refine hK _ _ ?_
  clear hK
  replace hp := Rws.grownOff hp hg7 (fun a e h => by injection h with h; have := gp a e; omega)
  replace hq := Rws.grownOff hq hg7 (fun a e h => by injection h with h; have := gq a e; omega)
  replace hX := hX.set 9 (by simp [Mg.cells]) (.slice po m.c.es.length pc)
  replace hY := hY.setOther (a := ⟨w.heap.size, 9, none⟩) (by simp) (.slice po m.c.es.length pc)
  replace hbW := hbW.setCell (p := ⟨w.heap.size, 9, none⟩) (Nat.le_refl _) (.slice po m.c.es.length pc)
  clear hg7 x9 fz hxl
  generalize Wz.setCell ⟨w.heap.size, 9, none⟩ (.slice po m.c.es.length pc) = Wz at *
  (try simp only [Act.put, List.setIfInBounds_toArray, List.set_cons_zero, List.set_cons_succ])
  refine tl_do rfl rfl (fun K hK => ?_)
  go_simp
  refine hK _ _ ?_
  clear hK
  (try simp only [Act.put, List.setIfInBounds_toArray, List.set_cons_zero, List.set_cons_succ])
  refine tl_do rfl rfl (fun K hK => ?_)
  have x9 : Wz.cell? ⟨w.heap.size, 10, none⟩ = some (.slice m.io m.c.its.length m.ic) := hX.at' 10 (by simp [Mg.cells])
  have fz := hX.froz 10
  have hxl := hX.lt
  have hg7 : Wz.grownBy (Wz.setCell ⟨w.heap.size, 10, none⟩ (.slice qo m.c.its.length qc)) (some w.heap.size) := setCells_grown w.heap.size [.slice qo m.c.its.length qc] 10 Wz
  go_simp
  refine hK _ _ ?_
  clear hK
  replace hp := Rws.grownOff hp hg7 (fun a e h => by injection h with h; have := gp a e; omega)
  replace hq := Rws.grownOff hq hg7 (fun a e h => by injection h with h; have := gq a e; omega)
  replace hX := hX.set 10 (by simp [Mg.cells]) (.slice qo m.c.its.length qc)
  replace hY := hY.setOther (a := ⟨w.heap.size, 10, none⟩) (by simp) (.slice qo m.c.its.length qc)
  replace hbW := hbW.setCell (p := ⟨w.heap.size, 10, none⟩) (Nat.le_refl _) (.slice qo m.c.its.length qc)
  clear hg7 x9 fz hxl
  generalize Wz.setCell ⟨w.heap.size, 10, none⟩ (.slice qo m.c.its.length qc) = Wz at *
  (try simp only [Act.put, List.setIfInBounds_toArray, List.set_cons_zero, List.set_cons_succ])
  refine tl_end ?_
  have hX2 : Blk Wz w.heap.size (Mg.cells ⟨m.c, po, pc, qo, qc⟩) := hX
  have HX2 := Lib.hid hX2; have HY2 := Lib.hid hY; have HP := Lib.hid hp; have HQ := Lib.hid hq; have GP := Lib.hid gp; have GQ := Lib.hid gq; have HBW := Lib.hid hbW
  clear hX hX2 hY hp hq gp gq hbW hsz
  go_wp2_with (refine stop_load (ty := 30) rfl ?_)
  refine ⟨wpList_load_blk rfl rfl HX2.out (by rfl) row30 ?_⟩
  go_wp2_with (refine stop_store (ty := 30) rfl ?_)
  refine ⟨wpList_store_blk rfl rfl HY2.out (by rfl) (vs := Mg.cells ⟨m.c, po, pc, qo, qc⟩) (by rfl) row30 rfl (mg_one _) ?_⟩
  intro W8 hY8 hg8
  have hb8 := Below.grownB HBW.out hg8 (Nat.le_succ _) HBW.out.size
  have hp8 := Rws.grownOff HP.out hg8 (fun a e h => by injection h with h; have := GP.out a e; omega)
  have hq8 := Rws.grownOff HQ.out hg8 (fun a e h => by injection h with h; have := GQ.out a e; omega)
  have HY8 := Lib.hid hY8; have HB8 := Lib.hid hb8; have HP8 := Lib.hid hp8; have HQ8 := Lib.hid hq8
  clear hY8 hg8 hb8 hp8 hq8 HX2 HY2 HP HQ HBW
  go_wp2
  refine ret_blk (b := w.heap.size + 1) rfl rfl HY8.out row30 rfl ⟨⟨m.c, po, pc, qo, qc⟩, rfl, ⟨rfl, ⟨HP8.out, HQ8.out⟩, ⟨fun a e => Nat.le_trans (Nat.le_add_right _ 2) (GP.out a e), fun a e => Nat.le_trans (Nat.le_add_right _ 2) (GQ.out a e)⟩⟩, HB8.out⟩
def Pd.head (p : Pd) : List Value := [.int .i64 p.rid, .int .i64 p.why, .int .i64 p.job, .int .i64 p.til, .int .i64 p.tries, .int .u64 p.sess, .string p.to.name, .int .u64 p.to.id, .int .i64 p.to.frm, .int .i64 p.to.til, .int .i64 p.to.idx, .string p.to.tag]
theorem pd_split (p : Pd) : p.cells = p.head ++ p.m.cells := rfl
def Pd.with (p : Pd) (m : Mg) : Pd := { p with m := m }
theorem put_msg (l : List Pd) (i : Nat) (hi : i < l.length) (m : Mg) :
    (l.flatMap Pd.cells).take (i * 23 + 12) ++ m.cells ++ (l.flatMap Pd.cells).drop (i * 23 + 12 + m.cells.length) = (l.set i (l[i].with m)).flatMap Pd.cells := by
  have e1 : l = l.take i ++ l[i] :: l.drop (i + 1) := by rw [List.getElem_cons_drop, List.take_append_drop]
  have e2 : l.set i (l[i].with m) = l.take i ++ l[i].with m :: l.drop (i + 1) := by rw [List.set_eq_take_append_cons_drop, if_pos hi]
  have hA : ((l.take i).flatMap Pd.cells).length = i * 23 := by rw [pd_len, List.length_take]; omega
  have e3 : l.flatMap Pd.cells = ((l.take i).flatMap Pd.cells ++ l[i].head) ++ (l[i].m.cells ++ (l.drop (i + 1)).flatMap Pd.cells) := by
    conv => lhs; rw [e1]
    rw [List.flatMap_append, List.flatMap_cons, pd_split]; simp [List.append_assoc]
  have hB : ((l.take i).flatMap Pd.cells ++ l[i].head).length = i * 23 + 12 := by rw [List.length_append, hA]; rfl
  rw [e2, List.flatMap_append, List.flatMap_cons, e3, List.take_left' hB, ← List.drop_drop, List.drop_left' hB, List.drop_left' (by rfl)]
  show _ = _ ++ ((l[i].with m).head ++ (l[i].with m).m.cells ++ _)
  simp only [Pd.with, List.append_assoc]
  rfl
structure CopyOk (w : World) (l : List Pd) (v : Value) (Q : List Pd) (w' : World) : Prop where
  own : Own w' w.heap.size 32 23 v Q.length (Q.flatMap Pd.cells)
  c : Q.map Pd.c = l.map Pd.c
  good : ∀ p ∈ Q, p.m.Good w'
  off : ∀ p ∈ Q, p.m.Off v.ownBlock
  ge : ∀ p ∈ Q, p.m.Ge w.heap.size
theorem with_c (p : Pd) (m : Mg) (h : m.c = p.m.c) : (p.with m).c = p.c := by simp [Pd.with, Pd.c, h]
/-- the copies so far -/
structure Part (l Q : List Pd) (k : Nat) (row : Option Nat) (B : Nat) (w : World) : Prop where
  len : Q.length = l.length
  c : Q.map Pd.c = l.map Pd.c
  post : ∀ j (h : j < Q.length) (h' : j < l.length), k ≤ j → Q[j] = l[j]
  good : ∀ j (h : j < Q.length), j < k → Q[j].m.Good w ∧ Q[j].m.Off row ∧ Q[j].m.Ge B
theorem Part.later {l Q : List Pd} {k : Nat} {row : Option Nat} {B : Nat} {w w' : World} (h : Part l Q k row B w) (hb : Below w.heap.size w w') : Part l Q k row B w' := ⟨h.len, h.c, h.post, fun j hj hk => ⟨(h.good j hj hk).1.below hb, (h.good j hj hk).2⟩⟩
theorem Part.put {l Q : List Pd} {k : Nat} {row : Option Nat} {B : Nat} {w w' : World} (h : Part l Q k row B w) (hk : k < l.length) (m : Mg) (hc : m.c = l[k].m.c) (hg : m.Good w) (ho : m.Off row) (hge : m.Ge B) (hgr : w.grownBy w' row) : Part l (Q.set k (l[k].with m)) (k + 1) row B w' := by
  have hl := h.len
  have hQk : Q[k]'(by omega) = l[k] := h.post k (by omega) hk (Nat.le_refl _)
  refine ⟨by simp [hl], ?_, fun j hj hj' hkj => ?_, fun j hj hjk => ?_⟩
  · rw [List.map_set, with_c _ _ hc, h.c]
    apply List.ext_getElem
    · simp
    · intro i h1 h2
      rw [List.getElem_set]
      split
      · rename_i e; subst e; simp
      · rfl
  · rw [List.getElem_set_ne (by omega)]
    exact h.post j (by simpa using hj) hj' (by omega)
  · by_cases e : j = k
    · subst e
      rw [List.getElem_set_self]
      exact ⟨hg.grown ho hgr, ho, hge⟩
    · rw [List.getElem_set_ne (by omega)]
      obtain ⟨h1, h2, h3⟩ := h.good j (by simpa using hj) (by omega)
      exact ⟨h1.grown h2 hgr, h2, h3⟩
theorem copy8 (l : List Pd) (w : World) (oa : Option Addr) (n c : Nat) (h : RPd w oa n c l) (hl : l.length ≤ 900) (hs : ∀ p ∈ l, p.m.small) :
    Calls Try.prog 8 #[.slice oa n c] w fun r w' => ∃ v Q, r = .returned v ∧ CopyOk w l v Q w' ∧ Below w.heap.size w w' := by
  obtain rfl : n = l.length := h.rows.rows.len
  have H := Lib.hid h; have HL := Lib.hid hl; have HS := Lib.hid hs; clear h hl hs
  go_enter Try.func8, Try.ntmps8
  go_wp2_with fail
  refine (clone30 l _ oa _ c H.out.rows HL.out).mono ?_
  rintro r w1 ⟨v, rfl, hO, hb⟩
  obtain ⟨oo, cc, rfl, -⟩ := Own.rws hO rfl
  have HO := Lib.hid hO; have HB := Lib.hid hb
  clear hO hb
  go_wp2_with fail
  go_loopw [4, 9] (fun _ u wr => ∃ (k : Nat) (Q : List Pd), k ≤ l.length ∧ u = .int .i64 k ∧ Hid (Part l Q k (Value.slice oo l.length cc).ownBlock w.heap.size wr) ∧ Hid (Own wr w.heap.size 32 23 (.slice oo l.length cc) l.length (Q.flatMap Pd.cells)) ∧ Hid (Below w.heap.size w wr)) (fun _ u _ => l.length - (intOf u).toNat)
  case atStart => exact ⟨0, l, by omega, rfl, Lib.hid ⟨rfl, rfl, fun _ _ _ _ => rfl, fun _ _ h => by omega⟩, HO, HB⟩
  case round =>
    obtain ⟨k, Q, hk, rfl, hP, hO, hB⟩ := hrel
    by_cases hlt : k < l.length
    · have hi1 : (k : Int) < (l.length : Int) := by omega
      have rk : IntKind.i64.wrap ((k : Int) + 1) = ((k + 1 : Nat) : Int) := by
        have h1 := HL.out
        rw [IntKind.wrap_i64]; omega
      obtain ⟨g, cap, e9, hnc, hcm, hbg, hBk⟩ := hO.out.blk (by omega)
      cases e9
      have hQl := hP.out.len
      have hQk : k < Q.length := by omega
      have hA : At wr g (k * 23) Q[k].cells := by
        obtain ⟨o2, c2, e2, hR⟩ := Own.rws hO.out hQl.symm
        injection e2 with e2 e4 e5
        subst e2
        obtain ⟨b2, p2, e3, h⟩ := hR.rows.pd hQk
        cases e3
        rwa [Nat.zero_add] at h
      rw [hP.out.post k hQk hlt (Nat.le_refl _)] at hA
      have HG := Lib.hid ((H.out.below hB.out).good _ (List.getElem_mem hlt))
      have HSM := Lib.hid (HS.out _ (List.getElem_mem hlt))
      have HPut := Lib.hid (fun m => put_msg Q k hQk m)
      have HQK : Hid (Q[k] = l[k]) := hP.out.post k hQk hlt (Nat.le_refl _)
      have HPP : Hid (∀ (w1 w2 : World) m, Part l Q k (some g) w.heap.size w1 → m.c = l[k].m.c → m.Good w1 → m.Off (some g) → m.Ge w.heap.size → w1.grownBy w2 (some g) → Part l (Q.set k (l[k].with m)) (k + 1) (some g) w.heap.size w2) := fun w1 w2 m h1 h2 h3 h4 h6 h5 => h1.put hlt m h2 h3 h4 h6 h5
      rw [HQK.out] at HPut
      obtain ⟨p, hp⟩ : ∃ q, l[k] = q := ⟨_, rfl⟩
      rw [hp] at hA HG HSM HPut HPP
      have HA := Lib.hid hA; have HKL := Lib.hid hQk; have HGL := Lib.hid hBk.lt
      clear hp hA hnc hcm hbg hBk hQl hQk HQK
      obtain ⟨wA, rfl⟩ : ∃ x, x = wr := ⟨_, rfl⟩
      go_wp2_with (refine stop_load (ty := 30) rfl ?_)
      refine ⟨wpList_load_at rfl rfl HA.out.mg (by rfl) row30 ?_⟩
      go_wp2_with fail
      refine (msgCopy31 p.m wA HG.out HSM.out).mono ?_
      rintro r w5 ⟨m', rfl, hM, hbk⟩
      have hO0 := hO.out.later hbk
      have hP0 := hP.out.later hbk
      have hgl := HGL.out
      have hMo : m'.Off (some g) := hM.ge.off hgl
      have HMG := Lib.hid (hM.ge.mono hB.out.size)
      have HM := Lib.hid hM
      have HMo := Lib.hid hMo; have HO0 := Lib.hid hO0; have HP0 := Lib.hid hP0; have HB0 := Lib.hid (below_step hB.out hbk)
      clear hbk hO0 hP0 hgl hMo hO hP hB hM HA HG
      go_wp2_with (refine stop_store (ty := 30) rfl ?_)
      have hkl := HKL.out
      refine ⟨wpList_store_own rfl rfl HO0.out (o := k * 23 + 12) (by rfl) (vs := m'.cells) (by rfl) row30 (by rw [pd_len, cells_11]; omega) (mg_one m') ?_⟩
      intro W7 hO1 hg
      rw [HPut.out m'] at hO1
      have hP1 := HPP.out _ _ m' HP0.out HM.out.c HM.out.good HMo.out HMG.out hg
      have hb1 := HO0.out.below hg HB0.out (Nat.le_refl _) HB0.out.size
      have HO1 := Lib.hid hO1; have HP1 := Lib.hid hP1; have HB1 := Lib.hid hb1
      clear hO1 hP1 hb1 hg hkl HO0 HP0 HB0 HM HMo
      go_wp2_with fail
      go_roundw
      case measure => (simp [intOf]) <;> omega
      case rel => exact ⟨k + 1, Q.set k (p.with m'), by omega, rfl, HP1, HO1, HB1⟩
    · obtain rfl : k = l.length := by omega
      have HC : Hid (CopyOk w l (.slice oo l.length cc) Q wr) := by
        have hQl := hP.out.len
        refine ⟨by rw [hQl]; exact hO.out, hP.out.c, fun p hp => ?_, fun p hp => ?_, fun p hp => ?_⟩
        · obtain ⟨j, hj, rfl⟩ := List.getElem_of_mem hp
          exact (hP.out.good j hj (by omega)).1
        · obtain ⟨j, hj, rfl⟩ := List.getElem_of_mem hp
          exact (hP.out.good j hj (by omega)).2.1
        · obtain ⟨j, hj, rfl⟩ := List.getElem_of_mem hp
          exact (hP.out.good j hj (by omega)).2.2
      clear hP hO
      go_wp2
      refine bodyPost_ret (v := .slice oo l.length cc) (by simp [results, Try.results8, go_sem]) rfl ⟨_, _, rfl, HC.out, hB.out⟩

end Go.Proofs.Ytmbakknpnilooaa
