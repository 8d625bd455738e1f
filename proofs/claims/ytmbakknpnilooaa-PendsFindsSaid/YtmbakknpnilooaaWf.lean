/-
  Walks: one deleted from a row of the call's own; a request dropped.
-/
import Derived.Test.YtmbakknpnilooaaWd
import Derived.Test.YtmbakknpnilooaaWe
import Derived.Test.YtmbakknpnilooaaDel2
namespace Go.Proofs.Ytmbakknpnilooaa
open Go.RowKit Go.Proofs.Ytmbakknpnilooaa.Plan Go.Proofs.Ytmbakknpnilooaa.Eager
set_option maxHeartbeats 4000000
set_option maxRecDepth 20000
set_option linter.unusedVariables false
set_option linter.unusedSimpArgs false

theorem delete33 (w : World) (g n cap i j : Nat) (cs : List Value) (hB : Blk w g cs) (hl : cs.length = n * 23) (hn : n ≤ cap) (hc : cap ≤ maxLen) (hi : i < n) (hj : j = i + 1) (h1 : ∀ u ∈ cs, u.oneCell' = true) :
    Calls Try.prog 33 #[.slice (some ⟨g, 0, none⟩) n cap, .int .i64 i, .int .i64 j] w fun r w' => r = .returned (.slice (some ⟨g, 0, none⟩) (n - 1) cap) ∧ ∃ vs : List Value, vs.length = (n - (i + (n - j))) * 23 ∧ w' = (w.drew.setCells g (i * 23) (cs.drop (j * 23))).setCells g ((i + (n - j)) * 23) vs := by
  have mixed : Try.prog.follows Departure.mixedOrders = true := by kernel_rfl
  have hm : cap ≤ 9223372036854775807 := by simpa [maxLen] using hc
  have hic : i ≤ cap := by omega
  have hjc : j ≤ cap := by omega
  have hjn : j ≤ n := by omega
  have hne : i ≠ j := by omega
  have hlt : i < j := by omega
  obtain ⟨news, hnews⟩ : ∃ news, news = cs.drop (j * 23) := ⟨_, rfl⟩
  have hlen : news.length = (n - j) * 23 := by rw [hnews, List.length_drop, hl]; omega
  obtain ⟨A, hA, hsrc⟩ : ∃ A : Addr, (if cap = j then some (⟨g, 0, none⟩ : Addr) else some ⟨g, j * 23, none⟩) = some A ∧ Hid (∀ t u, news[t]? = some u → w.drew.cell? (A.add t) = some u) := by
    by_cases h : cap = j
    · refine ⟨⟨g, 0, none⟩, by simp [h], fun t u hu => ?_⟩
      have h0 : news.length = 0 := by rw [hlen]; omega
      rw [List.length_eq_zero_iff.1 h0] at hu
      simp at hu
    · refine ⟨⟨g, j * 23, none⟩, by simp [h], fun t u hu => ?_⟩
      have ht : t < news.length := (List.getElem?_eq_some_iff.1 hu).1
      rw [hnews, List.getElem?_drop] at hu
      rw [Addr.add_lit]
      exact (hB.drew.cell (j * 23 + t) (by omega)).trans hu
  have s1 : Hid (news.length = (n - j) * 23) := hlen
  have s2 : Hid (∀ u ∈ news, u.oneCell' = true) := fun u hu => h1 u (by rw [hnews] at hu; exact List.mem_of_mem_drop hu)
  have s3 : Hid (∀ t, t < news.length → (w.drew.cell? ⟨g, 0 + i * 23 + t, none⟩).isSome = true ∧ w.drew.frozen? ⟨g, 0 + i * 23 + t, none⟩ = false) := by
    intro t ht
    rw [hlen] at ht
    rw [Nat.zero_add]
    exact ⟨by rw [hB.drew.at' (i * 23 + t) (by omega)]; rfl, hB.drew.froz _⟩
  obtain ⟨W1, hW1⟩ : ∃ W1, W1 = w.drew.setCells g (0 + i * 23) news := ⟨_, rfl⟩
  have hB1 : Blk W1 g (cs.take (i * 23) ++ news ++ cs.drop (i * 23 + news.length)) := by
    rw [hW1, Nat.zero_add]; exact hB.drew.setRange (by omega)
  have hl1 : (cs.take (i * 23) ++ news ++ cs.drop (i * 23 + news.length)).length = n * 23 := by simp; omega
  have hg1 : w.grownBy W1 (some g) := by
    rw [hW1]
    have h := setCells_grown g news (0 + i * 23) w.drew
    exact ⟨h.os, h.tape, h.output, h.size, h.block⟩
  obtain ⟨vs, hvl, hcl⟩ := run_clear_blk (P := Try.prog) (w := W1) 22 32 (z := .agg pd0.cells.toArray) rfl (fun w => by kernel_rfl) (fun u hu => pd_one pd0 u (by simpa [Value.cells] using hu)) hB1 ((i + (n - j)) * 23) 23 (n - (i + (n - j))) (cap - (i + (n - j))) rfl (by omega) (by omega) (by rw [hl1]; omega)
  have hB2 := hB1.setRange (vs := vs) (o := (i + (n - j)) * 23) (by rw [hl1, hvl]; omega)
  have hg2 := setCells_grown g vs ((i + (n - j)) * 23) W1
  have fin : Hid (∃ vs' : List Value, vs'.length = (n - (i + (n - j))) * 23 ∧ W1.setCells g ((i + (n - j)) * 23) vs = (w.drew.setCells g (i * 23) news).setCells g ((i + (n - j)) * 23) vs') := ⟨vs, hvl, by rw [hW1, Nat.zero_add]⟩
  obtain ⟨W2, hW2⟩ : ∃ W2, W1.setCells g ((i + (n - j)) * 23) vs = W2 := ⟨_, rfl⟩
  rw [hW2] at fin hcl
  rw [hnews] at fin
  have hW : Hid (W1 = w.drew.setCells g (0 + i * 23) news) := hW1
  have e0 : i + (n - j) = n - 1 := by omega
  have E0 := Lib.hid e0
  clear hB hB1 hg1 hg2 hB2 hl1 hW1 hW2 hnews hlen hl h1 hvl e0 hj
  go_enter Try.func33, Try.ntmps33
  go_wp2_with fail
  go_region_law_o (refine step_append_room rfl (.tmp 22) (.tmp 25) 22 rfl 32 _ 23 rfl rfl rfl g 0 i cap (by simp [Act.eval, Act.put]) A (n - j) (cap - j) news (by simp [Act.eval, Act.put]) s1.out hsrc.out s2.out (by omega) s3.out ?_; rw [← hW.out])
  go_wp2
  refine bodyPost_ret (v := .slice (some ⟨g, 0, none⟩) (i + (n - j)) cap) (by simp [results, Try.results33, go_sem]) rfl ⟨by rw [E0.out], fin.out⟩
theorem Own.shrink {w : World} {base e size g cap n : Nat} {xs : List Value} (h : Own w base e size (.slice (some ⟨g, 0, none⟩) n cap) n xs) {m : Nat} (hm : m ≤ n) : Own w base e size (.slice (some ⟨g, 0, none⟩) m cap) m (xs.take (m * size)) := by
  obtain ⟨h1, h2⟩ := h.row
  refine ⟨?_, ?_⟩
  · rw [List.length_take, h1]
    exact Nat.min_eq_left (Nat.mul_le_mul_right _ hm)
  · rcases h2 with ⟨h2, -⟩ | ⟨g', cap', cur, hv, hg, hh, hnc, hcm, hcs, ht⟩
    · cases h2
    · cases hv
      refine .inr ⟨g, cap, cur, rfl, hg, hh, by omega, hcm, hcs, ?_⟩
      rw [← ht, List.take_take, Nat.min_eq_left (Nat.mul_le_mul_right _ hm)]
theorem delete_own (w : World) (base g n cap i : Nat) (cs : List Value) (hO : Own w base 32 23 (.slice (some ⟨g, 0, none⟩) n cap) n cs) (hi : i < n) (h1 : ∀ u ∈ cs, u.oneCell' = true) :
    Calls Try.prog 33 #[.slice (some ⟨g, 0, none⟩) n cap, .int .i64 i, .int .i64 ((i + 1 : Nat) : Int)] w fun r w' => r = .returned (.slice (some ⟨g, 0, none⟩) (n - 1) cap) ∧ Own w' base 32 23 (.slice (some ⟨g, 0, none⟩) (n - 1) cap) (n - 1) (cs.take (i * 23) ++ cs.drop ((i + 1) * 23)) ∧ w.grownBy w' (some g) := by
  obtain ⟨g', c', e, hn, hc, hbg, hB⟩ := hO.blk (by omega)
  cases e
  have hl := hO.len
  refine (delete33 w g n cap i (i + 1) cs hB hl hn hc hi rfl h1).mono ?_
  rintro r w' ⟨rfl, vs, hvl, rfl⟩
  have hnl : (cs.drop ((i + 1) * 23)).length = (n - (i + 1)) * 23 := by rw [List.length_drop, hl]; omega
  have e1 := Own.setCells (cs.drop ((i + 1) * 23)) (i * 23) w.drew cs hO.drew (by omega)
  have e2 := Own.setCells vs ((i + (n - (i + 1))) * 23) _ _ e1 (by rw [hvl]; simp; omega)
  have e3 := Own.shrink e2 (m := n - 1) (by omega)
  refine ⟨rfl, ?_, ?_⟩
  · have ex : ((((cs.take (i * 23) ++ cs.drop ((i + 1) * 23) ++ cs.drop (i * 23 + (cs.drop ((i + 1) * 23)).length)).take ((i + (n - (i + 1))) * 23)) ++ vs ++ (cs.take (i * 23) ++ cs.drop ((i + 1) * 23) ++ cs.drop (i * 23 + (cs.drop ((i + 1) * 23)).length)).drop ((i + (n - (i + 1))) * 23 + vs.length)).take ((n - 1) * 23)) = cs.take (i * 23) ++ cs.drop ((i + 1) * 23) := by
      have x1 : (cs.take (i * 23) ++ cs.drop ((i + 1) * 23) ++ cs.drop (i * 23 + (cs.drop ((i + 1) * 23)).length)).take ((i + (n - (i + 1))) * 23) = cs.take (i * 23) ++ cs.drop ((i + 1) * 23) := List.take_left' (by simp; omega)
      rw [x1, List.append_assoc, List.take_left' (by simp; omega)]
    rw [ex] at e3
    exact e3
  · have g1 := setCells_grown g (cs.drop ((i + 1) * 23)) (i * 23) w.drew
    have g2 := setCells_grown g vs ((i + (n - (i + 1))) * 23) (w.drew.setCells g (i * 23) (cs.drop ((i + 1) * 23)))
    have g0 : w.grownBy w.drew (some g) := ⟨rfl, rfl, rfl, Nat.le_refl _, fun _ _ _ => rfl⟩
    exact grown_trans g0 (grown_trans g1 g2)
theorem erase_gen {α : Type} {f : α → List Value} {k : Nat} (hf : ∀ a, (f a).length = k) : ∀ (l : List α) (i : Nat), i < l.length → (l.flatMap f).take (i * k) ++ (l.flatMap f).drop ((i + 1) * k) = (l.eraseIdx i).flatMap f
  | [], i, h => by simp at h
  | s :: l, 0, h => by
    rw [List.flatMap_cons, Nat.zero_mul, List.take_zero, List.nil_append, Nat.zero_add, Nat.one_mul, List.drop_left' (hf s), List.eraseIdx_cons_zero]
  | s :: l, i + 1, h => by
    have ih := erase_gen hf l i (by simpa using h)
    have e1 : (i + 1) * k = (f s).length + i * k := by rw [hf, Nat.add_mul]; omega
    have e2 : (i + 1 + 1) * k = (f s).length + (i + 1) * k := by rw [hf, Nat.add_mul (i + 1)]; omega
    rw [List.flatMap_cons, e2, List.drop_length_add_append]
    have e3 : (f s ++ l.flatMap f).take ((i + 1) * k) = f s ++ (l.flatMap f).take (i * k) := by rw [e1, List.take_length_add_append]
    rw [e3, List.eraseIdx_cons_succ, List.flatMap_cons, ← ih, List.append_assoc]

theorem fold_pd (s : Pd) : List.foldl (fun (cs : Array Value) (x : Value × Nat) => cs.setIfInBounds x.snd x.fst) #[Value.int .i64 0, .int .i64 0, .int .i64 0, .int .i64 0, .int .i64 0, .int .u64 0, .string ⟨#[]⟩, .int .u64 0, .int .i64 0, .int .i64 0, .int .i64 0, .string ⟨#[]⟩,
    .int .i64 0, .int .i64 0, .int .i64 0, .int .i64 0, .int .u64 0, .bool false, .bool false, .string ⟨#[]⟩, .string ⟨#[]⟩, .slice none 0 0, .slice none 0 0] s.cells.zipIdx = s.cells.toArray := by
  simp [Pd.cells]
theorem erase_flat (l : List Pd) (i : Nat) (h : i < l.length) : (l.flatMap Pd.cells).take (i * 23) ++ (l.flatMap Pd.cells).drop ((i + 1) * 23) = (l.eraseIdx i).flatMap Pd.cells := erase_gen cells_23 l i h
def dropD {α : Type} (l : List α) (a : Int) : List α := if 0 ≤ a then l.eraseIdx a.toNat else l
theorem drop_succ {α : Type} (l : List α) (a : Int) {k : Nat} (h : k < l.length) : dropD (l.take (k + 1)) a = if (k : Int) = a then dropD (l.take k) a else dropD (l.take k) a ++ [l[k]] := by
  rw [List.take_succ_eq_append_getElem h]
  unfold dropD
  by_cases h0 : 0 ≤ a
  · rw [if_pos h0, if_pos h0, List.eraseIdx_append]
    have hl : (l.take k).length = k := by simp; omega
    by_cases h1 : a.toNat < k
    · rw [if_pos (by omega), if_neg (by omega)]
    · rw [if_neg (by omega), List.eraseIdx_of_length_le (k := a.toNat) (by omega)]
      by_cases h2 : (k : Int) = a
      · rw [if_pos h2, hl, show a.toNat - k = 0 by omega]; simp
      · rw [if_neg h2, hl, List.eraseIdx_of_length_le (by simp; omega)]
  · rw [if_neg h0, if_neg h0, if_neg (by omega)]
theorem drop_len {α : Type} (l : List α) (a : Int) : (dropD l a).length ≤ l.length := by
  unfold dropD; split
  · rw [List.length_eraseIdx]; split <;> omega
  · exact Nat.le_refl _

def DropOk (w : World) (l : List Pd) (e : Ending) (w' : World) : Prop :=
  ∃ v, e = .returned v ∧ Own w' w.heap.size 32 23 v l.length (l.flatMap Pd.cells) ∧ Below w.heap.size w w'
theorem refDrop15 (l : List Pd) (a : Int) (w : World) (oa : Option Addr) (n c : Nat) (h : Rws Pd.cells w oa n c l) (hl : l.length ≤ 900) :
    Calls Try.prog 15 #[.slice oa n c, .int .i64 a] w (DropOk w (dropD l a)) := by
  obtain rfl : n = l.length := h.rows.len
  have H := Lib.hid h; have HL := Lib.hid hl; clear h hl
  go_enter Try.func15, Try.ntmps15
  go_wp2
  go_loopw [5, 6] (fun v i wr => ∃ k : Nat, k ≤ l.length ∧ i = .int .i64 k ∧ Hid (Own wr w.heap.size 32 23 v (dropD (l.take k) a).length ((dropD (l.take k) a).flatMap Pd.cells)) ∧ Hid (Below w.heap.size w wr)) (fun _ i _ => l.length - (intOf i).toNat)
  case atStart => exact ⟨0, by omega, rfl, Lib.hid (by unfold dropD; split <;> exact Own.nil _ _ _ _), by (with_reducible try refine Lib.hid ?_); (repeat (with_reducible first | assumption | exact Below.refl _ _ | apply Below.drew | apply Below.drewN' | apply Below.setCell | apply Below.alloc)) <;> (try simp [length_fillTo, length_turnTo]) <;> (try omega)⟩
  case round =>
    obtain ⟨k, hk, rfl, hO, hbel⟩ := hrel
    by_cases hlt : k < l.length
    · have hi1 : (k : Int) < (l.length : Int) := by omega
      have rk : IntKind.i64.wrap ((k : Int) + 1) = ((k + 1 : Nat) : Int) := by
        have h1 := HL.out
        rw [IntKind.wrap_i64]; omega
      have HT := Lib.hid (drop_succ l a hlt)
      have hlen : (dropD (l.take k) a).length ≤ 900 := by
        have h1 := drop_len (l.take k) a
        have h2 := HL.out
        simp only [List.length_take] at h1
        omega
      obtain ⟨b1, p1, rfl, hA⟩ := (H.out.rows.below hbel.out).pd hlt
      obtain ⟨s, hs⟩ : ∃ s, l[k] = s := ⟨_, rfl⟩
      rw [hs] at hA HT
      clear hs
      obtain ⟨L, hL⟩ : ∃ L, dropD (l.take k) a = L := ⟨_, rfl⟩
      rw [hL] at hO HT hlen
      have HLEN := Lib.hid hlen
      clear hL hlen
      by_cases hka : (k : Int) = a
      · rw [if_pos hka] at HT
        subst hka
        go_wp2_with fail
        go_roundw
        case measure => (simp [intOf]) <;> omega
        case rel => exact ⟨k + 1, by omega, rfl, Lib.hid (by rw [HT.out]; exact hO.out), hbel⟩
      · rw [if_neg hka] at HT
        have hal2 : Below wr.heap.size wr (wr.alloc (.cells s.cells.toArray 32)) := (Below.refl _ _).alloc (Nat.le_refl _) _
        have hN3 : Blk (wr.alloc (.cells s.cells.toArray 32)) wr.heap.size s.cells := Blk.new' rfl
        have HO5 := Lib.hid (hO.out.later hal2); have HB5 := Lib.hid (below_step hbel.out hal2); have HN3 := Lib.hid hN3
        clear hal2 hN3 hO hbel
        go_wp2_with (refine stop_load (ty := 32) rfl ?_)
        refine ⟨wpList_load_at rfl rfl hA (by rfl) row32 ?_⟩
        clear hA
        have hlc := cells_23 s
        go_wp2_with (refine stop_append rfl ?_)
        rw [fold_pd s]
        clear hlc
        have hlen := HLEN.out
        refine ⟨wpList_app el22 rfl (by rfl) (by rfl) HO5.out (by rfl) (m := 1) rfl HN3.out.cells (pd_one s) (by simp [maxLen]; omega) (by omega) HB5.out.size ?_⟩
        intro v6 W6 hO6 hg6
        have hb6 := HO5.out.below hg6 HB5.out (Nat.le_refl _) HB5.out.size
        have HO6 := Lib.hid hO6; have HB6 := Lib.hid hb6
        clear hO6 hg6 hb6 hlen HO5 HB5 HN3
        go_wp2_with fail
        go_roundw
        case measure => (simp [intOf]) <;> omega
        case rel => exact ⟨k + 1, by omega, rfl, Lib.hid (by rw [HT.out]; simpa using HO6.out), HB6⟩
    · obtain rfl : k = l.length := by omega
      rw [List.take_length] at hO
      have HO := hO; have HB := hbel; clear hO hbel
      go_wp2
      refine bodyPost_ret (v := u5) (by simp [results, Try.results15, go_sem]) rfl ⟨_, rfl, HO.out, HB.out⟩


theorem drop_map {α β : Type} (f : α → β) (l : List α) (a : Int) : (dropD l a).map f = dropD (l.map f) a := by
  unfold dropD; split
  · rw [List.eraseIdx_eq_take_drop_succ, List.eraseIdx_eq_take_drop_succ]; simp
  · rfl
theorem drop_mem {α : Type} (l : List α) (a : Int) {x : α} (h : x ∈ dropD l a) : x ∈ l := by
  unfold dropD at h; split at h
  · exact List.mem_of_mem_eraseIdx h
  · exact h
/-- a list of requests that is handed back -/
def ListOut (w : World) (C : List PC) (e : Ending) (w' : World) : Prop :=
  ∃ oa n c Q, e = .returned (.slice oa n c) ∧ RPd w' oa n c Q ∧ Q.map Pd.c = C ∧ Below w.heap.size w w'
theorem CopyOk.rpd {w w' : World} {l Q : List Pd} {v : Value} (h : CopyOk w l v Q w') : ∃ oa c, v = .slice oa Q.length c ∧ RPd w' oa Q.length c Q := by
  obtain ⟨oa, c, rfl, hR⟩ := Own.rws h.own rfl
  exact ⟨oa, c, rfl, hR, h.good⟩
theorem CopyOk.len {w w' : World} {l Q : List Pd} {v : Value} (h : CopyOk w l v Q w') : Q.length = l.length := by
  simpa using congrArg List.length h.c
theorem refDropOut (l : List Pd) (a : Int) (w : World) (oa : Option Addr) (n c : Nat) (h : RPd w oa n c l) (hl : l.length ≤ 900) :
    Calls Try.prog 15 #[.slice oa n c, .int .i64 a] w (ListOut w (dropD (l.map Pd.c) a)) := by
  refine (refDrop15 l a w oa n c h.rows hl).mono ?_
  rintro r w' ⟨v, rfl, hO, hb⟩
  obtain ⟨o', c', rfl, hR⟩ := Own.rws hO rfl
  exact ⟨_, _, _, dropD l a, rfl, ⟨hR, fun p hp => (h.good p (drop_mem l a hp)).below hb⟩, drop_map _ _ _, hb⟩
theorem drop14 (l : List Pd) (a : Int) (w : World) (oa : Option Addr) (n c : Nat) (h : RPd w oa n c l) (hl : l.length ≤ 900) (hs : ∀ p ∈ l, p.m.small) :
    Calls Try.prog 14 #[.slice oa n c, .int .i64 a] w (ListOut w (dropD (l.map Pd.c) a)) := by
  obtain rfl : n = l.length := h.rows.rows.len
  have H := Lib.hid h; have HL := Lib.hid hl; have HS := Lib.hid hs
  clear h hl hs
  go_enter Try.func14, Try.ntmps14
  go_wp2_with fail
  refine (copy8 l _ oa _ c H.out HL.out HS.out).mono ?_
  rintro r w1 ⟨v, Q, rfl, hC, hb⟩
  have hQl := hC.len
  have HQC : Hid (Q.map Pd.c = l.map Pd.c) := hC.c
  have HC := Lib.hid hC; have HQL := Lib.hid hQl
  have HB := Lib.hid hb
  clear hb hC H HS
  by_cases hin : 0 ≤ a ∧ a < Q.length
  · obtain ⟨i, rfl⟩ : ∃ i : Nat, a = (i : Int) := ⟨a.toNat, by omega⟩
    have hil : i < Q.length := by omega
    have hi1 : (i : Int) < (Q.length : Int) := by omega
    have hi0 : (0 : Int) ≤ (i : Int) := by omega
    have ri : IntKind.i64.wrap ((i : Int) + 1) = ((i + 1 : Nat) : Int) := by
      have h1 := HL.out
      rw [IntKind.wrap_i64]; omega
    have HP : Hid (dropD (l.map Pd.c) (i : Int) = (Q.eraseIdx i).map Pd.c) := by show _ = _; rw [← HQC.out, ← drop_map]; unfold dropD; rw [if_pos (by omega)]; simp
    obtain ⟨g, cap, rfl, hnc, hcm, hbg, -⟩ := HC.out.own.blk (by omega)
    have HIL := Lib.hid hil
    clear hin hil hbg hnc hcm hQl
    go_wp2_with fail
    refine (delete_own w1 _ g _ cap i _ HC.out.own HIL.out (flat_one pd_one Q)).mono ?_
    rintro r w4 ⟨rfl, hO4, hg4⟩
    rw [erase_flat Q i HIL.out] at hO4
    have hb4 := HC.out.own.below hg4 HB.out (Nat.le_refl _) HB.out.size
    have hG4 : ∀ p ∈ Q.eraseIdx i, p.m.Good w4 := fun p hp => (HC.out.good p (List.mem_of_mem_eraseIdx hp)).grown (HC.out.off p (List.mem_of_mem_eraseIdx hp)) hg4
    have HO4 := Lib.hid hO4; have HB4 := Lib.hid hb4; have HG4 := Lib.hid hG4
    have HEL : Hid ((Q.eraseIdx i).length = Q.length - 1) := by show _ = _; rw [List.length_eraseIdx, if_pos HIL.out]
    clear hO4 hg4 hb4 hG4 HC HB
    go_wp2
    refine bodyPost_ret (v := .slice (some ⟨g, 0, none⟩) (Q.length - 1) cap) (by simp [results, Try.results14, go_sem]) rfl ?_
    obtain ⟨o', c', e, hR⟩ := Own.rws HO4.out HEL.out.symm
    injection e with e1 e2 e3
    subst e1; subst e3
    exact ⟨_, _, _, _, rfl, ⟨by have := hR; rwa [HEL.out] at this, HG4.out⟩, HP.out.symm, HB4.out⟩
  · have HP : Hid (dropD (l.map Pd.c) a = Q.map Pd.c) := by
      show _ = _
      rw [HQC.out]
      unfold dropD
      split
      · rw [List.eraseIdx_of_length_le (by simp; omega)]
      · rfl
    obtain ⟨o', c', rfl, hR⟩ := HC.out.rpd
    have HR := Lib.hid hR
    clear hR hQl
    by_cases h0 : 0 ≤ a
    · have h1 : ¬ a < (Q.length : Int) := by omega
      clear hin
      go_wp2
      refine bodyPost_ret (v := .slice o' Q.length c') (by simp [results, Try.results14, go_sem]) rfl ?_
      exact ⟨_, _, _, _, rfl, HR.out, HP.out.symm, HB.out⟩
    · clear hin
      go_wp2
      refine bodyPost_ret (v := .slice o' Q.length c') (by simp [results, Try.results14, go_sem]) rfl ?_
      exact ⟨_, _, _, _, rfl, HR.out, HP.out.symm, HB.out⟩
end Go.Proofs.Ytmbakknpnilooaa
