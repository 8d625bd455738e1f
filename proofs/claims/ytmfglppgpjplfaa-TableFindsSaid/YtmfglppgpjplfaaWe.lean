/-
  Walks: one deleted from a row of the call's own; one more session.
-/
import Derived.Test.YtmfglppgpjplfaaWd
namespace Go.Proofs.Ytmfglppgpjplfaa
open Go.RowKit Go.Proofs.Ytmfglppgpjplfaa.Plan Go.Proofs.Ytmfglppgpjplfaa.Eager
set_option maxHeartbeats 4000000
set_option maxRecDepth 20000
set_option linter.unusedVariables false
set_option linter.unusedSimpArgs false

theorem delete31b (w : World) (g n cap i j : Nat) (cs : List Value) (hB : Blk w g cs) (hl : cs.length = n * 20) (hn : n ≤ cap) (hc : cap ≤ maxLen) (hi : i < n) (hj : j = i + 1) (h1 : ∀ u ∈ cs, u.oneCell' = true) :
    Calls Try.prog 31 #[.slice (some ⟨g, 0, none⟩) n cap, .int .i64 i, .int .i64 j] w fun r w' => r = .returned (.slice (some ⟨g, 0, none⟩) (n - 1) cap) ∧ ∃ vs : List Value, vs.length = (n - (i + (n - j))) * 20 ∧ w' = (w.drew.setCells g (i * 20) (cs.drop (j * 20))).setCells g ((i + (n - j)) * 20) vs := by
  have mixed : Try.prog.follows Departure.mixedOrders = true := by kernel_rfl
  have hm : cap ≤ 9223372036854775807 := by simpa [maxLen] using hc
  have hic : i ≤ cap := by omega
  have hjc : j ≤ cap := by omega
  have hjn : j ≤ n := by omega
  have hne : i ≠ j := by omega
  have hlt : i < j := by omega
  obtain ⟨news, hnews⟩ : ∃ news, news = cs.drop (j * 20) := ⟨_, rfl⟩
  have hlen : news.length = (n - j) * 20 := by rw [hnews, List.length_drop, hl]; omega
  obtain ⟨A, hA, hsrc⟩ : ∃ A : Addr, (if cap = j then some (⟨g, 0, none⟩ : Addr) else some ⟨g, j * 20, none⟩) = some A ∧ Hid (∀ t u, news[t]? = some u → w.drew.cell? (A.add t) = some u) := by
    by_cases h : cap = j
    · refine ⟨⟨g, 0, none⟩, by simp [h], fun t u hu => ?_⟩
      have h0 : news.length = 0 := by rw [hlen]; omega
      rw [List.length_eq_zero_iff.1 h0] at hu
      simp at hu
    · refine ⟨⟨g, j * 20, none⟩, by simp [h], fun t u hu => ?_⟩
      have ht : t < news.length := (List.getElem?_eq_some_iff.1 hu).1
      rw [hnews, List.getElem?_drop] at hu
      rw [Addr.add_lit]
      exact (hB.drew.cell (j * 20 + t) (by omega)).trans hu
  have s1 : Hid (news.length = (n - j) * 20) := hlen
  have s2 : Hid (∀ u ∈ news, u.oneCell' = true) := fun u hu => h1 u (by rw [hnews] at hu; exact List.mem_of_mem_drop hu)
  have s3 : Hid (∀ t, t < news.length → (w.drew.cell? ⟨g, 0 + i * 20 + t, none⟩).isSome = true ∧ w.drew.frozen? ⟨g, 0 + i * 20 + t, none⟩ = false) := by
    intro t ht
    rw [hlen] at ht
    rw [Nat.zero_add]
    exact ⟨by rw [hB.drew.at' (i * 20 + t) (by omega)]; rfl, hB.drew.froz _⟩
  obtain ⟨W1, hW1⟩ : ∃ W1, W1 = w.drew.setCells g (0 + i * 20) news := ⟨_, rfl⟩
  have hB1 : Blk W1 g (cs.take (i * 20) ++ news ++ cs.drop (i * 20 + news.length)) := by
    rw [hW1, Nat.zero_add]; exact hB.drew.setRange (by omega)
  have hl1 : (cs.take (i * 20) ++ news ++ cs.drop (i * 20 + news.length)).length = n * 20 := by simp; omega
  have hg1 : w.grownBy W1 (some g) := by
    rw [hW1]
    have h := setCells_grown g news (0 + i * 20) w.drew
    exact ⟨h.os, h.tape, h.output, h.size, h.block⟩
  obtain ⟨vs, hvl, hcl⟩ := run_clear_blk (P := Try.prog) (w := W1) 22 30 (z := .agg #[.int .u64 0, .int .u64 0, .string ⟨#[]⟩, .int .u64 0, .int .i64 0, .int .i64 0, .int .i64 0, .string ⟨#[]⟩, .int .i64 0, .int .i64 0, .string ⟨#[]⟩, .string ⟨#[]⟩, .int .i64 0, .int .i64 0, .int .i64 0, .int .i64 0, .int .i64 0, .int .u64 0, .int .u64 0, .int .i64 0]) rfl (fun w => by kernel_rfl) (by simp [Value.cells, Value.oneCell']) hB1 ((i + (n - j)) * 20) 20 (n - (i + (n - j))) (cap - (i + (n - j))) rfl (by omega) (by omega) (by rw [hl1]; omega)
  have hB2 := hB1.setRange (vs := vs) (o := (i + (n - j)) * 20) (by rw [hl1, hvl]; omega)
  have hg2 := setCells_grown g vs ((i + (n - j)) * 20) W1
  have fin : Hid (∃ vs' : List Value, vs'.length = (n - (i + (n - j))) * 20 ∧ W1.setCells g ((i + (n - j)) * 20) vs = (w.drew.setCells g (i * 20) news).setCells g ((i + (n - j)) * 20) vs') := ⟨vs, hvl, by rw [hW1, Nat.zero_add]⟩
  obtain ⟨W2, hW2⟩ : ∃ W2, W1.setCells g ((i + (n - j)) * 20) vs = W2 := ⟨_, rfl⟩
  rw [hW2] at fin hcl
  rw [hnews] at fin
  have hW : Hid (W1 = w.drew.setCells g (0 + i * 20) news) := hW1
  have e0 : i + (n - j) = n - 1 := by omega
  have E0 := Lib.hid e0
  clear hB hB1 hg1 hg2 hB2 hl1 hW1 hW2 hnews hlen hl h1 hvl e0 hj
  go_enter Try.func31, Try.ntmps31
  go_wp2_with fail
  go_region_law_o (refine step_append_room rfl (.tmp 22) (.tmp 25) 22 rfl 30 _ 20 rfl rfl rfl g 0 i cap (by simp [Act.eval, Act.put]) A (n - j) (cap - j) news (by simp [Act.eval, Act.put]) s1.out hsrc.out s2.out (by omega) s3.out ?_; rw [← hW.out])
  go_wp2
  refine bodyPost_ret (v := .slice (some ⟨g, 0, none⟩) (i + (n - j)) cap) (by simp [results, Try.results31, go_sem]) rfl ⟨by rw [E0.out], fin.out⟩


theorem Own.shrink {w : World} {base e size g cap n : Nat} {xs : List Value} (h : Own w base e size (.slice (some ⟨g, 0, none⟩) n cap) n xs) {m : Nat} (hm : m ≤ n) : Own w base e size (.slice (some ⟨g, 0, none⟩) m cap) m (xs.take (m * size)) := by
  obtain ⟨h1, h2⟩ := h.row
  refine ⟨?_, ?_⟩
  · rw [List.length_take, h1]
    exact Nat.min_eq_left (Nat.mul_le_mul_right _ hm)
  · rcases h2 with ⟨h2, -⟩ | ⟨g', cap', cur, hv, hg, hh, hnc, hcm, hcs, ht⟩
    · cases h2
    · cases hv
      refine .inr ⟨g, cap, cur, rfl, hg, hh, by omega, hcm, hcs, ?_⟩
      rw [← ht, List.take_take, Nat.min_eq_left (Nat.mul_le_mul_right _ hm)]
theorem delete_own (w : World) (base g n cap i : Nat) (cs : List Value) (hO : Own w base 30 20 (.slice (some ⟨g, 0, none⟩) n cap) n cs) (hi : i < n) (h1 : ∀ u ∈ cs, u.oneCell' = true) :
    Calls Try.prog 31 #[.slice (some ⟨g, 0, none⟩) n cap, .int .i64 i, .int .i64 ((i + 1 : Nat) : Int)] w fun r w' => r = .returned (.slice (some ⟨g, 0, none⟩) (n - 1) cap) ∧ Own w' base 30 20 (.slice (some ⟨g, 0, none⟩) (n - 1) cap) (n - 1) (cs.take (i * 20) ++ cs.drop ((i + 1) * 20)) ∧ w.grownBy w' (some g) := by
  obtain ⟨g', c', e, hn, hc, hbg, hB⟩ := hO.blk (by omega)
  cases e
  have hl := hO.len
  refine (delete31b w g n cap i (i + 1) cs hB hl hn hc hi rfl h1).mono ?_
  rintro r w' ⟨rfl, vs, hvl, rfl⟩
  have hnl : (cs.drop ((i + 1) * 20)).length = (n - (i + 1)) * 20 := by rw [List.length_drop, hl]; omega
  have e1 := Own.setCells (cs.drop ((i + 1) * 20)) (i * 20) w.drew cs hO.drew (by omega)
  have e2 := Own.setCells vs ((i + (n - (i + 1))) * 20) _ _ e1 (by rw [hvl]; simp; omega)
  have e3 := Own.shrink e2 (m := n - 1) (by omega)
  refine ⟨rfl, ?_, ?_⟩
  · have ex : ((((cs.take (i * 20) ++ cs.drop ((i + 1) * 20) ++ cs.drop (i * 20 + (cs.drop ((i + 1) * 20)).length)).take ((i + (n - (i + 1))) * 20)) ++ vs ++ (cs.take (i * 20) ++ cs.drop ((i + 1) * 20) ++ cs.drop (i * 20 + (cs.drop ((i + 1) * 20)).length)).drop ((i + (n - (i + 1))) * 20 + vs.length)).take ((n - 1) * 20)) = cs.take (i * 20) ++ cs.drop ((i + 1) * 20) := by
      have x1 : (cs.take (i * 20) ++ cs.drop ((i + 1) * 20) ++ cs.drop (i * 20 + (cs.drop ((i + 1) * 20)).length)).take ((i + (n - (i + 1))) * 20) = cs.take (i * 20) ++ cs.drop ((i + 1) * 20) := List.take_left' (by simp; omega)
      rw [x1, List.append_assoc, List.take_left' (by simp; omega)]
    rw [ex] at e3
    exact e3
  · have g1 := setCells_grown g (cs.drop ((i + 1) * 20)) (i * 20) w.drew
    have g2 := setCells_grown g vs ((i + (n - (i + 1))) * 20) (w.drew.setCells g (i * 20) (cs.drop ((i + 1) * 20)))
    have g0 : w.grownBy w.drew (some g) := ⟨rfl, rfl, rfl, Nat.le_refl _, fun _ _ _ => rfl⟩
    exact grown_trans g0 (grown_trans g1 g2)
theorem erase_gen {α : Type} {f : α → List Value} {k : Nat} (hf : ∀ a, (f a).length = k) : ∀ (l : List α) (i : Nat), i < l.length → (l.flatMap f).take (i * k) ++ (l.flatMap f).drop ((i + 1) * k) = (l.eraseIdx i).flatMap f
  | [], i, h => by simp at h
  | s :: l, 0, h => by
    rw [List.flatMap_cons, Nat.zero_mul, List.take_zero, List.nil_append, Nat.zero_add, Nat.one_mul, List.drop_left' (hf s), List.eraseIdx_cons_zero]
  | s :: l, i + 1, h => by
    have ih := erase_gen hf l i (by simpa using h)
    have e1 : (i + 1) * k = (f s).length + i * k := by rw [hf, Nat.add_mul]; omega
    have e2 : (i + 1 + 1) * k = (f s).length + (i + 1) * k := by rw [hf, Nat.add_mul (i + 1)]; omega
    rw [List.flatMap_cons, e2, List.drop_length_add_append]
    have e3 : (f s ++ l.flatMap f).take ((i + 1) * k) = f s ++ (l.flatMap f).take (i * k) := by rw [e1, List.take_length_add_append]
    rw [e3, List.eraseIdx_cons_succ, List.flatMap_cons, ← ih, List.append_assoc]
theorem fold_ses (s : Ses) : List.foldl (fun (cs : Array Value) (x : Value × Nat) => cs.setIfInBounds x.snd x.fst) #[Value.int .u64 0, .int .u64 0, .string ⟨#[]⟩, .int .u64 0, .int .i64 0, .int .i64 0, .int .i64 0, .string ⟨#[]⟩,
    .int .i64 0, .int .i64 0, .string ⟨#[]⟩, .string ⟨#[]⟩, .int .i64 0, .int .i64 0, .int .i64 0, .int .i64 0, .int .i64 0, .int .u64 0, .int .u64 0, .int .i64 0] s.cells.zipIdx = s.cells.toArray := by
  simp [Ses.cells]
theorem cells_20 (s : Ses) : s.cells.length = 20 := rfl
theorem erase_flat (l : List Ses) (i : Nat) (h : i < l.length) : (l.flatMap Ses.cells).take (i * 20) ++ (l.flatMap Ses.cells).drop ((i + 1) * 20) = (l.eraseIdx i).flatMap Ses.cells := erase_gen cells_20 l i h

def addD (l : List Ses) (busy : List Nat) (s : Ses) : List Ses × Int :=
  if againD l s then (l, 26) else if 24 ≤ l.length then (match idleD l busy with
    | none => (l, 27)
    | some i => (l.eraseIdx i ++ [s], 0)) else (l ++ [s], 0)
def AddOk (w : World) (r : List Ses × Int) (e : Ending) (w' : World) : Prop :=
  ∃ v, e = .returned (.tuple #[v, .int .i64 r.2]) ∧ Own w' w.heap.size 30 20 v r.1.length (r.1.flatMap Ses.cells) ∧ Below w.heap.size w w'

theorem add10 (l : List Ses) (busy : List Nat) (s : Ses) (w : World) (oa : Option Addr) (n c : Nat) (ob : Option Addr) (nb cb : Nat) (h : RSes w oa n c l) (h' : RU w ob nb cb busy) (hl : l.length ≤ 900) :
    Calls Try.prog 10 #[.slice oa n c, .slice ob nb cb, .agg s.cells.toArray] w (AddOk w (addD l busy s)) := by
  obtain rfl : n = l.length := h.rows.len
  have hal : Below w.heap.size w (w.alloc (.cells s.cells.toArray 30)) := (Below.refl _ _).alloc (Nat.le_refl _) _
  have HX : Hid (Blk (w.alloc (.cells s.cells.toArray 30)) w.heap.size s.cells) := Blk.new' rfl
  have H := Lib.hid (h.below hal); have HU := Lib.hid (h'.below hal); have HB := Lib.hid hal; have HL := Lib.hid hl
  clear h h' hal hl
  have HA : Hid (addD l busy s = if againD l s then (l, (26 : Int)) else if 24 ≤ l.length then (match idleD l busy with
    | none => (l, (27 : Int))
    | some i => (l.eraseIdx i ++ [s], (0 : Int))) else (l ++ [s], (0 : Int))) := rfl
  go_enter Try.func10, Try.ntmps10
  go_wp2_with fail
  refine (clone28 l _ oa _ c H.out (by have := HL.out; omega)).mono ?_
  rintro r w1 ⟨v, rfl, hO, hb⟩
  have hO1 : Own w1 (w.heap.size + 1) 30 20 v l.length (l.flatMap Ses.cells) := by simpa using hO
  have HO := Lib.hid hO1
  replace HX := Lib.hid (HX.out.later hb); replace H := Lib.hid (H.out.below hb); replace HU := Lib.hid (HU.out.below hb); replace HB := Lib.hid (below_step HB.out hb)
  clear hb hO hO1
  go_wp2_with (refine stop_load (ty := 30) rfl ?_)
  refine ⟨wpList_load_blk rfl rfl HX.out (by rfl) row30 ?_⟩
  go_wp2_with fail
  refine (again29 l s w1 oa _ c H.out).mono ?_
  rintro r w2 ⟨rfl, hb⟩
  replace HX := Lib.hid (HX.out.later hb); replace H := Lib.hid (H.out.below hb); replace HU := Lib.hid (HU.out.below hb); replace HB := Lib.hid (below_step HB.out hb); replace HO := Lib.hid (HO.out.later hb)
  clear hb
  cases hag : againD l s
  case true =>
    have HR : Hid (addD l busy s = (l, 26)) := by show _ = _; rw [HA.out, hag]; rfl
    clear HA hag
    go_wp2
    refine bodyPost_ret (v := .tuple #[v, .int .i64 26]) (by simp [results, Try.results10, go_sem]) rfl ?_
    rw [HR.out]
    exact ⟨v, rfl, HO.out.mono (by omega), HB.out⟩
  case false =>
  by_cases h24 : 24 ≤ l.length
  · have h24' : (24 : Int) ≤ (l.length : Int) := by omega
    have HR : Hid (addD l busy s = match idleD l busy with
      | none => (l, (27 : Int))
      | some i => (l.eraseIdx i ++ [s], (0 : Int))) := by show _ = _; rw [HA.out, hag]; simp only [Bool.false_eq_true, if_false, if_pos h24]
    clear HA hag h24
    go_wp2_with fail
    refine (idle30 l busy w2 oa _ c ob nb cb H.out HU.out).mono ?_
    rintro r w3 ⟨rfl, hb⟩
    replace HX := Lib.hid (HX.out.later hb); replace HB := Lib.hid (below_step HB.out hb); replace HO := Lib.hid (HO.out.later hb)
    have HLT := Lib.hid (idleTo_lt l busy l.length)
    clear hb H HU
    obtain ⟨q, hq⟩ : ∃ q, idleD l busy = q := ⟨_, rfl⟩
    have HQ : Hid (∀ b, q = some b → b < l.length) := fun b e => (HLT.out b (by rw [← e, ← hq]; rfl)).2
    rw [hq] at HR ⊢
    clear hq HLT
    cases q with
    | none =>
      simp only [optI]
      go_wp2
      refine bodyPost_ret (v := .tuple #[v, .int .i64 27]) (by simp [results, Try.results10, go_sem]) rfl ?_
      rw [HR.out]
      exact ⟨v, rfl, HO.out.mono (by omega), HB.out⟩
    | some i =>
      have hil := HQ.out i rfl
      have HIL := Lib.hid hil
      have hi0 : ¬ (i : Int) < 0 := by omega
      have ri : IntKind.i64.wrap ((i : Int) + 1) = ((i + 1 : Nat) : Int) := by
        have h1 := HL.out
        rw [IntKind.wrap_i64]; omega
      obtain ⟨g, cap, rfl, hnc, hcm, hbg, -⟩ := HO.out.blk (by omega)
      have HBG := Lib.hid hbg
      replace HR : Hid (addD l busy s = (l.eraseIdx i ++ [s], 0)) := HR.out
      clear hil HQ hbg hnc hcm
      simp only [optI]
      go_wp2_with fail
      refine (delete_own w3 _ g _ cap i _ HO.out HIL.out (ses_oneCells l)).mono ?_
      rintro r w4 ⟨rfl, hO4, hg4⟩
      rw [erase_flat l i HIL.out] at hO4
      have hX4 := HX.out.grown hg4 (by intro e; cases e; have := HBG.out; omega)
      have hb4 := HO.out.below hg4 HB.out (Nat.le_succ _) (by have := HX.out.lt; omega)
      have HO4 := Lib.hid hO4; have HX4 := Lib.hid hX4; have HB4 := Lib.hid hb4
      clear hO4 hg4 hX4 hb4 HO HX HB
      go_wp2_with (refine stop_load (ty := 30) rfl ?_)
      refine ⟨wpList_load_blk rfl rfl HX4.out (by rfl) row30 ?_⟩
      have hal2 : Below w4.heap.size w4 (w4.alloc (.cells s.cells.toArray 30)) := (Below.refl _ _).alloc (Nat.le_refl _) _
      have hN3 : Blk (w4.alloc (.cells s.cells.toArray 30)) w4.heap.size s.cells := Blk.new' rfl
      have HO5 := Lib.hid (HO4.out.later hal2); have HB5 := Lib.hid (below_step HB4.out hal2); have HN3 := Lib.hid hN3
      have HX5 := Lib.hid (HX4.out.later hal2)
      clear hal2 hN3 HO4 HB4 HX4
      have hlc := cells_20 s
      go_wp2_with (refine stop_append rfl ?_)
      rw [fold_ses s]
      clear hlc
      have hlen := HL.out
      have hx5 := HX5.out.lt
      refine ⟨wpList_app el22 rfl (by rfl) (by rfl) HO5.out (by rfl) (m := 1) rfl HN3.out.cells (ses_one s) (by simp [maxLen]; omega) (by omega) (by omega) ?_⟩
      intro v6 W6 hO6 hg6
      have hb6 := HO5.out.below hg6 HB5.out (Nat.le_succ _) (by omega)
      have HO6 := Lib.hid hO6; have HB6 := Lib.hid hb6
      clear hO6 hg6 hb6 hlen hx5 HO5 HB5 HN3 HX5
      go_wp2
      refine bodyPost_ret (v := .tuple #[v6, .int .i64 0]) (by simp [results, Try.results10, go_sem]) rfl ?_
      rw [HR.out]
      refine ⟨v6, rfl, ?_, HB6.out⟩
      have e1 : (l.eraseIdx i ++ [s]).length = l.length - 1 + 1 := by have := HIL.out; simp [List.length_eraseIdx, this]
      have := (HO6.out.mono (base' := w.heap.size) (by omega))
      simp only [e1]
      simpa using this
  · have h24' : ¬ (24 : Int) ≤ (l.length : Int) := by omega
    have HR : Hid (addD l busy s = (l ++ [s], 0)) := by show _ = _; rw [HA.out, hag]; simp only [Bool.false_eq_true, if_false, if_neg h24]
    clear HA hag h24
    have hal2 : Below w2.heap.size w2 (w2.alloc (.cells s.cells.toArray 30)) := (Below.refl _ _).alloc (Nat.le_refl _) _
    have hN3 : Blk (w2.alloc (.cells s.cells.toArray 30)) w2.heap.size s.cells := Blk.new' rfl
    go_wp2_with (refine stop_load (ty := 30) rfl ?_)
    refine ⟨wpList_load_blk rfl rfl HX.out (by rfl) row30 ?_⟩
    have HO5 := Lib.hid (HO.out.later hal2); have HB5 := Lib.hid (below_step HB.out hal2); have HN3 := Lib.hid hN3
    have HX5 := Lib.hid (HX.out.later hal2)
    clear hal2 hN3 HO HB HX
    have hlc := cells_20 s
    go_wp2_with (refine stop_append rfl ?_)
    rw [fold_ses s]
    clear hlc
    have hlen := HL.out
    have hx5 := HX5.out.lt
    refine ⟨wpList_app el22 rfl (by rfl) (by rfl) HO5.out (by rfl) (m := 1) rfl HN3.out.cells (ses_one s) (by simp [maxLen]; omega) (by omega) (by omega) ?_⟩
    intro v6 W6 hO6 hg6
    have hb6 := HO5.out.below hg6 HB5.out (Nat.le_succ _) (by omega)
    have HO6 := Lib.hid hO6; have HB6 := Lib.hid hb6
    clear hO6 hg6 hb6 hlen hx5 HO5 HB5 HN3 HX5
    go_wp2
    refine bodyPost_ret (v := .tuple #[v6, .int .i64 0]) (by simp [results, Try.results10, go_sem]) rfl ?_
    rw [HR.out]
    refine ⟨v6, rfl, ?_, HB6.out⟩
    have := (HO6.out.mono (base' := w.heap.size) (by omega))
    simpa using this
end Go.Proofs.Ytmfglppgpjplfaa
