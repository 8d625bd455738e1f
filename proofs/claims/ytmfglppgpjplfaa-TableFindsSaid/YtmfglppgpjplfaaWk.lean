/-
  Walks: the document's looks.
-/
import Derived.Test.YtmfglppgpjplfaaWh
namespace Go.Proofs.Ytmfglppgpjplfaa
open Go.RowKit Go.Proofs.Ytmfglppgpjplfaa.Plan Go.Proofs.Ytmfglppgpjplfaa.Eager
set_option maxHeartbeats 2000000
set_option maxRecDepth 20000
set_option linter.unusedVariables false
set_option linter.unusedSimpArgs false

theorem refWho39 (a b : En) (w : World) : Calls Try.prog 39 #[.agg a.cells.toArray, .agg b.cells.toArray] w fun r w' => r = .returned (.bool (whoD a b)) ∧ Below w.heap.size w w' := by
  obtain ⟨an, ai, af, at', ax, ag⟩ := a
  obtain ⟨bn, bi, bf, bt, bx, bg⟩ := b
  have HW : Hid (whoD ⟨an, ai, af, at', ax, ag⟩ ⟨bn, bi, bf, bt, bx, bg⟩ = (decide (an = bn) && decide (ai = bi))) := rfl
  simp only [En.cells]
  by_cases h1 : an = bn
  · subst h1
    by_cases h2 : ai = bi
    · subst h2
      go_enter Try.func39, Try.ntmps39
      go_wp2
      refine bodyPost_ret (v := .bool true) (by simp [results, Try.results39, go_sem]) rfl ⟨by rw [HW.out]; simp, by (with_reducible try refine Lib.hid ?_); (repeat (with_reducible first | assumption | exact Below.refl _ _ | apply Below.drew | apply Below.drewN' | apply Below.setCell | apply Below.alloc)) <;> (try simp [length_fillTo, length_turnTo]) <;> (try omega)⟩
    · have h2' : ¬ (ai : Int) = (bi : Int) := by omega
      go_enter Try.func39, Try.ntmps39
      go_wp2
      refine bodyPost_ret (v := .bool false) (by simp [results, Try.results39, go_sem, h2']) rfl ⟨by rw [HW.out]; simp [h2], by (with_reducible try refine Lib.hid ?_); (repeat (with_reducible first | assumption | exact Below.refl _ _ | apply Below.drew | apply Below.drewN' | apply Below.setCell | apply Below.alloc)) <;> (try simp [length_fillTo, length_turnTo]) <;> (try omega)⟩
  · have hne := strne h1
    go_enter Try.func39, Try.ntmps39
    go_wp2
    refine bodyPost_ret (v := .bool false) (by simp [results, Try.results39, go_sem]) rfl ⟨by rw [HW.out]; simp [h1], by (with_reducible try refine Lib.hid ?_); (repeat (with_reducible first | assumption | exact Below.refl _ _ | apply Below.drew | apply Below.drewN' | apply Below.setCell | apply Below.alloc)) <;> (try simp [length_fillTo, length_turnTo]) <;> (try omega)⟩

theorem refById15 (l : List Ses) (n : Nat) (w : World) (oa : Option Addr) (m c : Nat) (h : RSes w oa m c l) :
    Calls Try.prog 15 #[.slice oa m c, .int .u64 n] w fun r w' => r = .returned (.int .i64 (idxD (byId n) l)) ∧ Below w.heap.size w w' := by
  obtain rfl : m = l.length := h.rows.len
  have H := Lib.hid h; clear h
  go_enter Try.func15, Try.ntmps15
  go_wp2
  go_loopw [5] (fun i wr => ∃ k : Nat, k ≤ l.length ∧ i = .int .i64 k ∧ Hid (∀ j (h : j < l.length), j < k → byId n l[j] = false) ∧ Hid (Below w.heap.size w wr)) (fun i _ => l.length - (intOf i).toNat)
  case atStart => exact ⟨0, by omega, rfl, Lib.hid (fun j _ h => by omega), by (with_reducible try refine Lib.hid ?_); (repeat (with_reducible first | assumption | exact Below.refl _ _ | apply Below.drew | apply Below.drewN' | apply Below.setCell | apply Below.alloc)) <;> (try simp [length_fillTo, length_turnTo]) <;> (try omega)⟩
  case round =>
    obtain ⟨k, hk, rfl, hS, hbel⟩ := hrel
    by_cases hlt : k < l.length
    · have hi1 : (k : Int) < (l.length : Int) := by omega
      have rk : IntKind.i64.wrap ((k : Int) + 1) = ((k + 1 : Nat) : Int) := by
        have h1 := H.out.le; have h2 := H.out.cap
        simp only [maxLen] at h2
        rw [IntKind.wrap_i64]; omega
      obtain ⟨b1, p1, rfl, hA⟩ := (H.out.rows.below hbel.out).ses hlt
      have HY : Hid (byId n l[k] = true → idxD (byId n) l = (k : Int)) := idxD_at (byId n) l k hlt hS.out
      have HN : Hid (byId n l[k] = false → ∀ j (h : j < l.length), j < k + 1 → byId n l[j] = false) := by
        intro ht j hj hjk
        by_cases e : j = k
        · subst e; exact ht
        · exact hS.out j hj (by omega)
      obtain ⟨s, hs⟩ : ∃ s, l[k] = s := ⟨_, rfl⟩
      rw [hs] at hA HY HN
      clear hs hS
      have x9 : wr.cell? ⟨b1, p1 + k * 20 + 9, none⟩ = some (.int .i64 s.state) := hA.get 9 (by simp [Ses.cells])
      have x0 : wr.cell? ⟨b1, p1 + k * 20, none⟩ = some (.int .u64 s.id) := hA.get 0 (by simp [Ses.cells])
      have hxl := hA.lt
      clear hA
      by_cases h1 : s.state ≠ 1
      rotate_left
      · have h1 : s.state = 1 := by omega
        have HN2 := Lib.hid (HN.out (by unfold byId; simp [h1]))
        clear HN HY
        go_wp2_with fail
        go_roundw
        case measure => (simp [intOf]) <;> omega
        case rel => exact ⟨k + 1, by omega, rfl, HN2, hbel⟩
      skip
      by_cases h2 : s.id = n
      rotate_left
      · have h2i : ¬ (s.id : Int) = (n : Int) := by omega
        have HN2 := Lib.hid (HN.out (by unfold byId; simp [h2]))
        clear HN HY
        go_wp2_with fail
        go_roundw
        case measure => (simp [intOf]) <;> omega
        case rel => exact ⟨k + 1, by omega, rfl, HN2, hbel⟩
      have h2i : (s.id : Int) = (n : Int) := by omega
      by_cases h3 : n ≠ 0
      rotate_left
      · have h3i : ¬ (0 : Int) < (n : Int) := by omega
        have HN2 := Lib.hid (HN.out (by unfold byId; simp [(by omega : n = 0)]))
        clear HN HY
        go_wp2_with fail
        go_roundw
        case measure => (simp [intOf]) <;> omega
        case rel => exact ⟨k + 1, by omega, rfl, HN2, hbel⟩
      have h3i : (0 : Int) < (n : Int) := by omega
      have h3n : 0 < n := by omega
      have h1b : (s.state != 1) = true := by simp [h1]
      have HY2 := Lib.hid (HY.out (by unfold byId; simp [h1, h2, h3]))
      clear HN HY
      go_wp2_with fail
      refine bodyPost_ret (v := .int .i64 (k : Int)) (by simp [results, Try.results15, go_sem]) rfl ⟨by rw [HY2.out], hbel.out⟩
    · obtain rfl : k = l.length := by omega
      have HF2 := Lib.hid (idxD_none (byId n) l (fun j hj => hS.out j hj hj))
      have hb1 := hbel.out
      clear hS
      go_wp2
      refine bodyPost_ret (v := .int .i64 (-1)) (by simp [results, Try.results15, go_sem]) rfl ⟨by rw [HF2.out], hb1⟩


theorem refWaits17 (l : List Ses) (n : Nat) (w : World) (oa : Option Addr) (m c : Nat) (h : RSes w oa m c l) :
    Calls Try.prog 17 #[.slice oa m c, .int .u64 n] w fun r w' => r = .returned (.int .i64 (idxD (waitsD n) l)) ∧ Below w.heap.size w w' := by
  obtain rfl : m = l.length := h.rows.len
  have H := Lib.hid h; clear h
  go_enter Try.func17, Try.ntmps17
  go_wp2
  go_loopw [5] (fun i wr => ∃ k : Nat, k ≤ l.length ∧ i = .int .i64 k ∧ Hid (∀ j (h : j < l.length), j < k → waitsD n l[j] = false) ∧ Hid (Below w.heap.size w wr)) (fun i _ => l.length - (intOf i).toNat)
  case atStart => exact ⟨0, by omega, rfl, Lib.hid (fun j _ h => by omega), by (with_reducible try refine Lib.hid ?_); (repeat (with_reducible first | assumption | exact Below.refl _ _ | apply Below.drew | apply Below.drewN' | apply Below.setCell | apply Below.alloc)) <;> (try simp [length_fillTo, length_turnTo]) <;> (try omega)⟩
  case round =>
    obtain ⟨k, hk, rfl, hS, hbel⟩ := hrel
    by_cases hlt : k < l.length
    · have hi1 : (k : Int) < (l.length : Int) := by omega
      have rk : IntKind.i64.wrap ((k : Int) + 1) = ((k + 1 : Nat) : Int) := by
        have h1 := H.out.le; have h2 := H.out.cap
        simp only [maxLen] at h2
        rw [IntKind.wrap_i64]; omega
      obtain ⟨b1, p1, rfl, hA⟩ := (H.out.rows.below hbel.out).ses hlt
      have HY : Hid (waitsD n l[k] = true → idxD (waitsD n) l = (k : Int)) := idxD_at (waitsD n) l k hlt hS.out
      have HN : Hid (waitsD n l[k] = false → ∀ j (h : j < l.length), j < k + 1 → waitsD n l[j] = false) := by
        intro ht j hj hjk
        by_cases e : j = k
        · subst e; exact ht
        · exact hS.out j hj (by omega)
      obtain ⟨s, hs⟩ : ∃ s, l[k] = s := ⟨_, rfl⟩
      rw [hs] at hA HY HN
      clear hs hS
      have x9 : wr.cell? ⟨b1, p1 + k * 20 + 9, none⟩ = some (.int .i64 s.state) := hA.get 9 (by simp [Ses.cells])
      have x1 : wr.cell? ⟨b1, p1 + k * 20 + 1, none⟩ = some (.int .u64 s.nonce) := hA.get 1 (by simp [Ses.cells])
      have hxl := hA.lt
      clear hA
      by_cases h1 : s.state = 1
      rotate_left
      · skip
        have HN2 := Lib.hid (HN.out (by unfold waitsD; simp [h1]))
        clear HN HY
        go_wp2_with fail
        go_roundw
        case measure => (simp [intOf]) <;> omega
        case rel => exact ⟨k + 1, by omega, rfl, HN2, hbel⟩
      skip
      by_cases h2 : s.nonce = n
      rotate_left
      · have h2i : ¬ (s.nonce : Int) = (n : Int) := by omega
        have HN2 := Lib.hid (HN.out (by unfold waitsD; simp [h2]))
        clear HN HY
        go_wp2_with fail
        go_roundw
        case measure => (simp [intOf]) <;> omega
        case rel => exact ⟨k + 1, by omega, rfl, HN2, hbel⟩
      have h2i : (s.nonce : Int) = (n : Int) := by omega
      have HY2 := Lib.hid (HY.out (by unfold waitsD; simp [h1, h2]))
      clear HN HY
      go_wp2_with fail
      refine bodyPost_ret (v := .int .i64 (k : Int)) (by simp [results, Try.results17, go_sem]) rfl ⟨by rw [HY2.out], hbel.out⟩
    · obtain rfl : k = l.length := by omega
      have HF2 := Lib.hid (idxD_none (waitsD n) l (fun j hj => hS.out j hj hj))
      have hb1 := hbel.out
      clear hS
      go_wp2
      refine bodyPost_ret (v := .int .i64 (-1)) (by simp [results, Try.results17, go_sem]) rfl ⟨by rw [HF2.out], hb1⟩

theorem in33 (l : List Nat) (x : Nat) (w : World) (oa : Option Addr) (n c : Nat) (h : RU w oa n c l) :
    Calls Try.prog 33 #[.slice oa n c, .int .u64 x] w fun r w' => r = .returned (.bool (decide (x ∈ l))) ∧ Below w.heap.size w w' := by
  obtain rfl : n = l.length := h.rows.len
  have H := Lib.hid h; clear h
  go_enter Try.func33, Try.ntmps33
  go_wp2
  go_loopw [5] (fun i wr => ∃ k : Nat, k ≤ l.length ∧ i = .int .i64 k ∧ Hid (∀ j (h : j < l.length), j < k → l[j] ≠ x) ∧ Hid (Below w.heap.size w wr)) (fun i _ => l.length - (intOf i).toNat)
  case atStart => exact ⟨0, by omega, rfl, Lib.hid (fun j _ h => by omega), by (with_reducible try refine Lib.hid ?_); (repeat (with_reducible first | assumption | exact Below.refl _ _ | apply Below.drew | apply Below.drewN' | apply Below.setCell | apply Below.alloc)) <;> (try simp [length_fillTo, length_turnTo]) <;> (try omega)⟩
  case round =>
    obtain ⟨k, hk, rfl, hS, hbel⟩ := hrel
    by_cases hlt : k < l.length
    · have hi1 : (k : Int) < (l.length : Int) := by omega
      have rk : IntKind.i64.wrap ((k : Int) + 1) = ((k + 1 : Nat) : Int) := by
        have h1 := H.out.le; have h2 := H.out.cap
        simp only [maxLen] at h2
        rw [IntKind.wrap_i64]; omega
      obtain ⟨b1, p1, rfl, hb1, e0⟩ := (H.out.rows.below hbel.out).u64 hlt
      have HM : Hid (l[k] ∈ l) := List.getElem_mem hlt
      have HS2 : Hid (l[k] ≠ x → ∀ j (h : j < l.length), j < k + 1 → l[j] ≠ x) := by
        intro ht j hj hjk
        by_cases e : j = k
        · subst e; exact ht
        · exact hS.out j hj (by omega)
      obtain ⟨t, ht'⟩ : ∃ t, l[k] = t := ⟨_, rfl⟩
      rw [ht'] at e0 HM HS2
      clear ht'
      by_cases ht : t = x
      · subst ht
        clear hS HS2
        go_wp2
        refine bodyPost_ret (v := .bool true) (by simp [results, Try.results33, go_sem]) rfl ⟨by rw [decide_eq_true HM.out], hbel.out⟩
      · have hne : ¬ (t : Int) = (x : Int) := by omega
        have HS3 := Lib.hid (HS2.out ht)
        clear hS HS2
        go_wp2
        go_roundw
        case measure => (simp [intOf]) <;> omega
        case rel => exact ⟨k + 1, by omega, rfl, HS3, hbel⟩
    · obtain rfl : k = l.length := by omega
      have HF : Hid (x ∉ l) := fun hx => by
        obtain ⟨j, hj, e⟩ := List.getElem_of_mem hx
        exact hS.out j hj hj e
      have hb1 := hbel.out
      clear hS
      go_wp2
      refine bodyPost_ret (v := .bool false) (by simp [results, Try.results33, go_sem]) rfl ⟨by rw [decide_eq_false HF.out], hb1⟩

theorem At.peer {w : World} {b o : Nat} {s : Ses} (h : At w b o s.cells) : At w b (o + 2) s.peer.cells := by
  refine ⟨h.lt, fun j v hj => ?_⟩
  have hj2 : j < 6 := (List.getElem?_eq_some_iff.1 hj).1
  have := h.range (2 + j) v (by
    have : s.cells[2 + j]? = s.peer.cells[j]? := by
      rcases (by omega : j = 0 ∨ j = 1 ∨ j = 2 ∨ j = 3 ∨ j = 4 ∨ j = 5) with rfl | rfl | rfl | rfl | rfl | rfl <;> rfl
    rw [this]; exact hj)
  rw [Nat.add_assoc]; exact this
theorem refAgain32 (l : List Ses) (s : Ses) (w : World) (oa : Option Addr) (m c : Nat) (h : RSes w oa m c l) :
    Calls Try.prog 32 #[.slice oa m c, .agg s.cells.toArray] w fun r w' => r = .returned (.bool (againD l s)) ∧ Below w.heap.size w w' := by
  obtain rfl : m = l.length := h.rows.len
  have hal : Below w.heap.size w (w.alloc (.cells s.cells.toArray 30)) := (Below.refl _ _).alloc (Nat.le_refl _) _
  have hX : Blk (w.alloc (.cells s.cells.toArray 30)) w.heap.size s.cells := Blk.new' rfl
  have HB := Lib.hid hal; have HX := Lib.hid hX; have H := Lib.hid (h.below hal)
  have x9 : (w.alloc (.cells s.cells.toArray 30)).cell? ⟨w.heap.size, 9, none⟩ = some (.int .i64 s.state) := ses_at hX 9 (by omega)
  have x0 : (w.alloc (.cells s.cells.toArray 30)).cell? ⟨w.heap.size, 0, none⟩ = some (.int .u64 s.id) := ses_at hX 0 (by omega)
  have x1 : (w.alloc (.cells s.cells.toArray 30)).cell? ⟨w.heap.size, 1, none⟩ = some (.int .u64 s.nonce) := ses_at hX 1 (by omega)
  have hl2 := hX.lt
  have HV : Hid (againD l s = if s.state = 1 then l.any (waitsD s.nonce) else l.any (byId s.id) || l.any (twiceD s)) := rfl
  clear hal hX h
  by_cases h1 : s.state = 1
  · rw [if_pos h1] at HV
    go_enter Try.func32, Try.ntmps32
    go_wp2_with fail
    refine (refWaits17 l s.nonce _ oa _ c H.out).mono ?_
    rintro r w1 ⟨rfl, hb⟩
    have HB2 := Lib.hid (below_step HB.out hb)
    have HG := Lib.hid (idxD_ge (waitsD s.nonce) l)
    clear hb HB H HX x9 x0 x1 hl2
    go_wp2
    refine bodyPost_ret (v := .bool (decide (0 ≤ idxD (waitsD s.nonce) l))) (by simp [results, Try.results32, go_sem]) rfl ⟨by rw [HG.out, HV.out], HB2.out⟩
  rw [if_neg h1] at HV
  go_enter Try.func32, Try.ntmps32
  go_wp2_with fail
  refine (refById15 l s.id _ oa _ c H.out).mono ?_
  rintro r w1 ⟨rfl, hb⟩
  have HB2 := Lib.hid (below_step HB.out hb)
  have HG := Lib.hid (idxD_ge (byId s.id) l)
  have HX2 := Lib.hid (HX.out.later hb)
  have H2 := Lib.hid (H.out.below hb)
  clear hb HB HX x9 x0 x1 hl2 H
  have H : Hid (RSes w1 oa l.length c l) := H2
  obtain ⟨q, hq⟩ : ∃ q, idxD (byId s.id) l = q := ⟨_, rfl⟩
  rw [hq] at HG ⊢
  clear hq
  by_cases hq2 : 0 ≤ q
  · have HR2 : Hid (againD l s = true) := by show _ = _; rw [HV.out, ← HG.out, decide_eq_true hq2, Bool.true_or]
    clear HV HG
    go_wp2
    refine bodyPost_ret (v := .bool true) (by simp [results, Try.results32, go_sem]) rfl ⟨by rw [HR2.out], HB2.out⟩
  have HR2 : Hid (againD l s = l.any (twiceD s)) := by show _ = _; rw [HV.out, ← HG.out, decide_eq_false hq2, Bool.false_or]
  have hq3 : decide (0 ≤ q) = false := decide_eq_false hq2
  clear HV HG hq2
  go_wp2_with fail
  clear hq3
  go_loopw [5] (fun i wr => ∃ k : Nat, k ≤ l.length ∧ i = .int .i64 k ∧ Hid (∀ j (h : j < l.length), j < k → twiceD s l[j] = false) ∧ Hid (Blk wr w.heap.size s.cells) ∧ Hid (Below w.heap.size w wr ∧ Below w1.heap.size w1 wr)) (fun i _ => l.length - (intOf i).toNat)
  case atStart => exact ⟨0, by omega, rfl, Lib.hid (fun j _ h => by omega), HX2, Lib.hid ⟨HB2.out, Below.refl _ _⟩⟩
  case round =>
    obtain ⟨k, hk, rfl, hS, hY, hB⟩ := hrel
    by_cases hlt : k < l.length
    · have hi1 : (k : Int) < (l.length : Int) := by omega
      have rk : IntKind.i64.wrap ((k : Int) + 1) = ((k + 1 : Nat) : Int) := by
        have h1 := H2.out.le; have h2 := H2.out.cap
        simp only [maxLen] at h2
        rw [IntKind.wrap_i64]; omega
      obtain ⟨b1, p1, rfl, hA⟩ := (H.out.rows.below hB.out.2).ses hlt
      have HA := Lib.hid hA
      have HY : Hid (twiceD s l[k] = true → l.any (twiceD s) = true) := fun e => List.any_eq_true.2 ⟨_, List.getElem_mem hlt, e⟩
      have HN : Hid (twiceD s l[k] = false → ∀ j (h : j < l.length), j < k + 1 → twiceD s l[j] = false) := by
        intro ht j hj hjk
        by_cases e : j = k
        · subst e; exact ht
        · exact hS.out j hj (by omega)
      obtain ⟨x, hx⟩ : ∃ x, l[k] = x := ⟨_, rfl⟩
      rw [hx] at HA HY HN
      clear hx hS hA
      obtain ⟨wA, rfl⟩ : ∃ q, q = wr := ⟨_, rfl⟩
      by_cases h1 : s.state = 2
      · by_cases h2 : x.role = 2
        · by_cases h3 : x.nonce = s.nonce
          · have h3i : (x.nonce : Int) = (s.nonce : Int) := by omega
            have G1 : Hid (s.state = 2) := h1; have G2 : Hid (x.role = 2) := h2; have G3 : Hid (x.nonce = s.nonce) := h3
            clear h1 h2 h3
            go_wp2_with fail
            refine wp_region_plan none [] [] (.take 0 (.take 1 (.take 2 (.take 3 (.take 4 (.take 5 (.take 6 (.take 7 (.take 8 (.take 9 (.take 10 (.take 11 (.take 12 (.take 13 (.take 14 (.take 15 (.take 16 (.take 17 (.take 18 (.take 19 (.take 20 (.take 21 (.take 22 (.take 23 (.take 24 (.take 25 (.take 26 (.take 27 (.take 28 (.one 29 (.take 30 .done))))))))))))))))))))))))))))))) (by kernel_rfl) (by kernel_rfl) (fun _ _ dd _ _ h => by cases dd <;> exact h) ?_
            intro W0 hW0
            have hY0 : Blk W0 w.heap.size s.cells := by rw [hW0]; exact hY.out.drew
            have hbW : Below w.heap.size w W0 := by rw [hW0]; exact hB.out.1.drew
            have hb1 : Below w1.heap.size w1 W0 := by rw [hW0]; exact hB.out.2.drew
            have f0 := HA.out.later (below_drew wA)
            rw [← hW0] at f0
            clear hW0
            (refine pl_take (d := 25) (v := ?_) rfl rfl rfl ?_ ?_; rotate_left; (focus ((intro w' hb0 hw'; go_simp) <;> with_reducible rfl)); simp only [Act.put, List.setIfInBounds_toArray, List.set_cons_zero, List.set_cons_succ])
            (refine pl_take (d := 26) (v := ?_) rfl rfl rfl ?_ ?_; rotate_left; (focus ((intro w' hb0 hw'; have y9 : w'.cell? ⟨w.heap.size, 9, none⟩ = some (.int .i64 s.state) := (hY0.later hw').at' 9 (by simp [Ses.cells]); go_simp) <;> with_reducible rfl)); simp only [Act.put, List.setIfInBounds_toArray, List.set_cons_zero, List.set_cons_succ])
            refine pl_take (d := 27) (v := .bool true) rfl rfl rfl ?_ ?_
            · intro w' hb0 hw'
              have hh := G1.out
              go_simp
            simp only [Act.put, List.setIfInBounds_toArray, List.set_cons_zero, List.set_cons_succ]
            (refine pl_take (d := 28) (v := ?_) rfl rfl rfl ?_ ?_; rotate_left; (focus ((intro w' hb0 hw'; go_simp) <;> with_reducible rfl)); simp only [Act.put, List.setIfInBounds_toArray, List.set_cons_zero, List.set_cons_succ])
            (refine pl_take (d := 29) (v := ?_) rfl rfl rfl ?_ ?_; rotate_left; (focus ((intro w' hb0 hw'; go_simp) <;> with_reducible rfl)); simp only [Act.put, List.setIfInBounds_toArray, List.set_cons_zero, List.set_cons_succ])
            (refine pl_take (d := 30) (v := ?_) rfl rfl rfl ?_ ?_; rotate_left; (focus ((intro w' hb0 hw'; go_simp) <;> with_reducible rfl)); simp only [Act.put, List.setIfInBounds_toArray, List.set_cons_zero, List.set_cons_succ])
            (refine pl_take (d := 31) (v := ?_) rfl rfl rfl ?_ ?_; rotate_left; (focus ((intro w' hb0 hw'; go_simp) <;> with_reducible rfl)); simp only [Act.put, List.setIfInBounds_toArray, List.set_cons_zero, List.set_cons_succ])
            (refine pl_take (d := 32) (v := ?_) rfl rfl rfl ?_ ?_; rotate_left; (focus ((intro w' hb0 hw'; go_simp) <;> with_reducible rfl)); simp only [Act.put, List.setIfInBounds_toArray, List.set_cons_zero, List.set_cons_succ])
            (refine pl_take (d := 33) (v := ?_) rfl rfl rfl ?_ ?_; rotate_left; (focus ((intro w' hb0 hw'; have x8 : w'.cell? ⟨b1, p1 + k * 20 + 8, none⟩ = some (.int .i64 x.role) := (f0.later hw').get 8 (by simp [Ses.cells]); go_simp) <;> with_reducible rfl)); simp only [Act.put, List.setIfInBounds_toArray, List.set_cons_zero, List.set_cons_succ])
            refine pl_take (d := 34) (v := .bool true) rfl rfl rfl ?_ ?_
            · intro w' hb0 hw'
              have hh := G2.out
              go_simp
            simp only [Act.put, List.setIfInBounds_toArray, List.set_cons_zero, List.set_cons_succ]
            (refine pl_take (d := 35) (v := ?_) rfl rfl rfl ?_ ?_; rotate_left; (focus ((intro w' hb0 hw'; go_simp) <;> with_reducible rfl)); simp only [Act.put, List.setIfInBounds_toArray, List.set_cons_zero, List.set_cons_succ])
            (refine pl_take (d := 36) (v := ?_) rfl rfl rfl ?_ ?_; rotate_left; (focus ((intro w' hb0 hw'; go_simp) <;> with_reducible rfl)); simp only [Act.put, List.setIfInBounds_toArray, List.set_cons_zero, List.set_cons_succ])
            (refine pl_take (d := 37) (v := ?_) rfl rfl rfl ?_ ?_; rotate_left; (focus ((intro w' hb0 hw'; go_simp) <;> with_reducible rfl)); simp only [Act.put, List.setIfInBounds_toArray, List.set_cons_zero, List.set_cons_succ])
            (refine pl_take (d := 38) (v := ?_) rfl rfl rfl ?_ ?_; rotate_left; (focus ((intro w' hb0 hw'; go_simp) <;> with_reducible rfl)); simp only [Act.put, List.setIfInBounds_toArray, List.set_cons_zero, List.set_cons_succ])
            (refine pl_take (d := 39) (v := ?_) rfl rfl rfl ?_ ?_; rotate_left; (focus ((intro w' hb0 hw'; go_simp) <;> with_reducible rfl)); simp only [Act.put, List.setIfInBounds_toArray, List.set_cons_zero, List.set_cons_succ])
            (refine pl_take (d := 40) (v := ?_) rfl rfl rfl ?_ ?_; rotate_left; (focus ((intro w' hb0 hw'; go_simp) <;> with_reducible rfl)); simp only [Act.put, List.setIfInBounds_toArray, List.set_cons_zero, List.set_cons_succ])
            (refine pl_take (d := 41) (v := ?_) rfl rfl rfl ?_ ?_; rotate_left; (focus ((intro w' hb0 hw'; have x1 : w'.cell? ⟨b1, p1 + k * 20 + 1, none⟩ = some (.int .u64 x.nonce) := (f0.later hw').get 1 (by simp [Ses.cells]); go_simp) <;> with_reducible rfl)); simp only [Act.put, List.setIfInBounds_toArray, List.set_cons_zero, List.set_cons_succ])
            (refine pl_take (d := 42) (v := ?_) rfl rfl rfl ?_ ?_; rotate_left; (focus ((intro w' hb0 hw'; go_simp) <;> with_reducible rfl)); simp only [Act.put, List.setIfInBounds_toArray, List.set_cons_zero, List.set_cons_succ])
            (refine pl_take (d := 43) (v := ?_) rfl rfl rfl ?_ ?_; rotate_left; (focus ((intro w' hb0 hw'; have y1 : w'.cell? ⟨w.heap.size, 1, none⟩ = some (.int .u64 s.nonce) := (hY0.later hw').at' 1 (by simp [Ses.cells]); go_simp) <;> with_reducible rfl)); simp only [Act.put, List.setIfInBounds_toArray, List.set_cons_zero, List.set_cons_succ])
            refine pl_take (d := 44) (v := .bool true) rfl rfl rfl ?_ ?_
            · intro w' hb0 hw'
              go_simp
            simp only [Act.put, List.setIfInBounds_toArray, List.set_cons_zero, List.set_cons_succ]
            (refine pl_take (d := 45) (v := ?_) rfl rfl rfl ?_ ?_; rotate_left; (focus ((intro w' hb0 hw'; go_simp) <;> with_reducible rfl)); simp only [Act.put, List.setIfInBounds_toArray, List.set_cons_zero, List.set_cons_succ])
            (refine pl_take (d := 46) (v := ?_) rfl rfl rfl ?_ ?_; rotate_left; (focus ((intro w' hb0 hw'; go_simp) <;> with_reducible rfl)); simp only [Act.put, List.setIfInBounds_toArray, List.set_cons_zero, List.set_cons_succ])
            (refine pl_take (d := 47) (v := ?_) rfl rfl rfl ?_ ?_; rotate_left; (focus ((intro w' hb0 hw'; go_simp) <;> with_reducible rfl)); simp only [Act.put, List.setIfInBounds_toArray, List.set_cons_zero, List.set_cons_succ])
            (refine pl_take (d := 48) (v := ?_) rfl rfl rfl ?_ ?_; rotate_left; (focus ((intro w' hb0 hw'; go_simp) <;> with_reducible rfl)); simp only [Act.put, List.setIfInBounds_toArray, List.set_cons_zero, List.set_cons_succ])
            (refine pl_take (d := 49) (v := ?_) rfl rfl rfl ?_ ?_; rotate_left; (focus ((intro w' hb0 hw'; go_simp) <;> with_reducible rfl)); simp only [Act.put, List.setIfInBounds_toArray, List.set_cons_zero, List.set_cons_succ])
            (refine pl_take (d := 50) (v := ?_) rfl rfl rfl ?_ ?_; rotate_left; (focus ((intro w' hb0 hw'; go_simp) <;> with_reducible rfl)); simp only [Act.put, List.setIfInBounds_toArray, List.set_cons_zero, List.set_cons_succ])
            refine pl_take (d := 51) (v := .agg x.peer.cells.toArray) rfl rfl rfl ?_ ?_
            · intro w' hb0 hw'
              exact run_load_at rfl ((f0.later hw').peer) (by rfl) row26
            simp only [Act.put, List.setIfInBounds_toArray, List.set_cons_zero, List.set_cons_succ]
            (refine pl_take (d := 52) (v := ?_) rfl rfl rfl ?_ ?_; rotate_left; (focus ((intro w' hb0 hw'; go_simp) <;> with_reducible rfl)); simp only [Act.put, List.setIfInBounds_toArray, List.set_cons_zero, List.set_cons_succ])
            refine pl_take (d := 53) (v := .agg s.peer.cells.toArray) rfl rfl rfl ?_ ?_
            · intro w' hb0 hw'
              exact run_load_at rfl ((hY0.later hw').at_.peer) (by rfl) row26
            simp only [Act.put, List.setIfInBounds_toArray, List.set_cons_zero, List.set_cons_succ]
            refine pl_one rfl rfl (fun K hK => ?_)
            go_simp
            refine (refWho39 x.peer s.peer W0).mono ?_
            rintro r W1 ⟨rfl, hbk⟩
            refine hK _ _ (hbk : Rel none W0 W1) ?_
            clear hK
            replace hY0 := hY0.later hbk; replace hbW := below_step hbW hbk; replace hb1 := below_step hb1 hbk
            clear hbk f0
            (refine pl_take (d := 55) (v := ?_) rfl rfl rfl ?_ ?_; rotate_left; (focus ((intro w' hb0 hw'; go_simp) <;> with_reducible rfl)); simp only [Act.put, List.setIfInBounds_toArray, List.set_cons_zero, List.set_cons_succ])
            refine pl_end ?_
            have HY0 := Lib.hid hY0; have HBW := Lib.hid (And.intro hbW hb1)
            clear hY0 hbW hb1
            cases hwh : whoD x.peer s.peer
            · have HN2 := Lib.hid (HN.out (by unfold twiceD; simp [G1.out, G2.out, G3.out, hwh]))
              clear HN HY hwh
              go_wp2_with fail
              go_roundw
              case measure => (simp [intOf]) <;> omega
              case rel => exact ⟨k + 1, by omega, rfl, HN2, HY0, HBW⟩
            · have HY2 := Lib.hid (HY.out (by unfold twiceD; simp [G1.out, G2.out, G3.out, hwh]))
              clear HN HY hwh
              go_wp2_with fail
              refine bodyPost_ret (v := .bool true) (by simp [results, Try.results32, go_sem]) rfl ⟨by rw [HR2.out, HY2.out], HBW.out.1⟩
          · have h3i : ¬ (x.nonce : Int) = (s.nonce : Int) := by omega
            have HN2 := Lib.hid (HN.out (by unfold twiceD; simp [h3]))
            have G1 : Hid (s.state = 2) := h1; have G2 : Hid (x.role = 2) := h2
            clear HN HY h1 h2 h3
            go_wp2_with fail
            refine wp_region_plan none [] [] (.take 0 (.take 1 (.take 2 (.take 3 (.take 4 (.take 5 (.take 6 (.take 7 (.take 8 (.take 9 (.take 10 (.take 11 (.take 12 (.take 13 (.take 14 (.take 15 (.take 16 (.take 17 (.take 18 (.take 19 (.take 20 (.take 21 (.take 22 (.take 23 (.take 24 (.take 25 (.take 26 (.take 27 (.take 28 (.one 29 (.take 30 .done))))))))))))))))))))))))))))))) (by kernel_rfl) (by kernel_rfl) (fun _ _ dd _ _ h => by cases dd <;> exact h) ?_
            intro W0 hW0
            have hY0 : Blk W0 w.heap.size s.cells := by rw [hW0]; exact hY.out.drew
            have hbW : Below w.heap.size w W0 := by rw [hW0]; exact hB.out.1.drew
            have hb1 : Below w1.heap.size w1 W0 := by rw [hW0]; exact hB.out.2.drew
            have f0 := HA.out.later (below_drew wA)
            rw [← hW0] at f0
            clear hW0
            (refine pl_take (d := 25) (v := ?_) rfl rfl rfl ?_ ?_; rotate_left; (focus ((intro w' hb0 hw'; go_simp) <;> with_reducible rfl)); simp only [Act.put, List.setIfInBounds_toArray, List.set_cons_zero, List.set_cons_succ])
            (refine pl_take (d := 26) (v := ?_) rfl rfl rfl ?_ ?_; rotate_left; (focus ((intro w' hb0 hw'; have y9 : w'.cell? ⟨w.heap.size, 9, none⟩ = some (.int .i64 s.state) := (hY0.later hw').at' 9 (by simp [Ses.cells]); go_simp) <;> with_reducible rfl)); simp only [Act.put, List.setIfInBounds_toArray, List.set_cons_zero, List.set_cons_succ])
            refine pl_take (d := 27) (v := .bool true) rfl rfl rfl ?_ ?_
            · intro w' hb0 hw'
              have hh := G1.out
              go_simp
            simp only [Act.put, List.setIfInBounds_toArray, List.set_cons_zero, List.set_cons_succ]
            (refine pl_take (d := 28) (v := ?_) rfl rfl rfl ?_ ?_; rotate_left; (focus ((intro w' hb0 hw'; go_simp) <;> with_reducible rfl)); simp only [Act.put, List.setIfInBounds_toArray, List.set_cons_zero, List.set_cons_succ])
            (refine pl_take (d := 29) (v := ?_) rfl rfl rfl ?_ ?_; rotate_left; (focus ((intro w' hb0 hw'; go_simp) <;> with_reducible rfl)); simp only [Act.put, List.setIfInBounds_toArray, List.set_cons_zero, List.set_cons_succ])
            (refine pl_take (d := 30) (v := ?_) rfl rfl rfl ?_ ?_; rotate_left; (focus ((intro w' hb0 hw'; go_simp) <;> with_reducible rfl)); simp only [Act.put, List.setIfInBounds_toArray, List.set_cons_zero, List.set_cons_succ])
            (refine pl_take (d := 31) (v := ?_) rfl rfl rfl ?_ ?_; rotate_left; (focus ((intro w' hb0 hw'; go_simp) <;> with_reducible rfl)); simp only [Act.put, List.setIfInBounds_toArray, List.set_cons_zero, List.set_cons_succ])
            (refine pl_take (d := 32) (v := ?_) rfl rfl rfl ?_ ?_; rotate_left; (focus ((intro w' hb0 hw'; go_simp) <;> with_reducible rfl)); simp only [Act.put, List.setIfInBounds_toArray, List.set_cons_zero, List.set_cons_succ])
            (refine pl_take (d := 33) (v := ?_) rfl rfl rfl ?_ ?_; rotate_left; (focus ((intro w' hb0 hw'; have x8 : w'.cell? ⟨b1, p1 + k * 20 + 8, none⟩ = some (.int .i64 x.role) := (f0.later hw').get 8 (by simp [Ses.cells]); go_simp) <;> with_reducible rfl)); simp only [Act.put, List.setIfInBounds_toArray, List.set_cons_zero, List.set_cons_succ])
            refine pl_take (d := 34) (v := .bool true) rfl rfl rfl ?_ ?_
            · intro w' hb0 hw'
              have hh := G2.out
              go_simp
            simp only [Act.put, List.setIfInBounds_toArray, List.set_cons_zero, List.set_cons_succ]
            (refine pl_take (d := 35) (v := ?_) rfl rfl rfl ?_ ?_; rotate_left; (focus ((intro w' hb0 hw'; go_simp) <;> with_reducible rfl)); simp only [Act.put, List.setIfInBounds_toArray, List.set_cons_zero, List.set_cons_succ])
            (refine pl_take (d := 36) (v := ?_) rfl rfl rfl ?_ ?_; rotate_left; (focus ((intro w' hb0 hw'; go_simp) <;> with_reducible rfl)); simp only [Act.put, List.setIfInBounds_toArray, List.set_cons_zero, List.set_cons_succ])
            (refine pl_take (d := 37) (v := ?_) rfl rfl rfl ?_ ?_; rotate_left; (focus ((intro w' hb0 hw'; go_simp) <;> with_reducible rfl)); simp only [Act.put, List.setIfInBounds_toArray, List.set_cons_zero, List.set_cons_succ])
            (refine pl_take (d := 38) (v := ?_) rfl rfl rfl ?_ ?_; rotate_left; (focus ((intro w' hb0 hw'; go_simp) <;> with_reducible rfl)); simp only [Act.put, List.setIfInBounds_toArray, List.set_cons_zero, List.set_cons_succ])
            (refine pl_take (d := 39) (v := ?_) rfl rfl rfl ?_ ?_; rotate_left; (focus ((intro w' hb0 hw'; go_simp) <;> with_reducible rfl)); simp only [Act.put, List.setIfInBounds_toArray, List.set_cons_zero, List.set_cons_succ])
            (refine pl_take (d := 40) (v := ?_) rfl rfl rfl ?_ ?_; rotate_left; (focus ((intro w' hb0 hw'; go_simp) <;> with_reducible rfl)); simp only [Act.put, List.setIfInBounds_toArray, List.set_cons_zero, List.set_cons_succ])
            (refine pl_take (d := 41) (v := ?_) rfl rfl rfl ?_ ?_; rotate_left; (focus ((intro w' hb0 hw'; have x1 : w'.cell? ⟨b1, p1 + k * 20 + 1, none⟩ = some (.int .u64 x.nonce) := (f0.later hw').get 1 (by simp [Ses.cells]); go_simp) <;> with_reducible rfl)); simp only [Act.put, List.setIfInBounds_toArray, List.set_cons_zero, List.set_cons_succ])
            (refine pl_take (d := 42) (v := ?_) rfl rfl rfl ?_ ?_; rotate_left; (focus ((intro w' hb0 hw'; go_simp) <;> with_reducible rfl)); simp only [Act.put, List.setIfInBounds_toArray, List.set_cons_zero, List.set_cons_succ])
            (refine pl_take (d := 43) (v := ?_) rfl rfl rfl ?_ ?_; rotate_left; (focus ((intro w' hb0 hw'; have y1 : w'.cell? ⟨w.heap.size, 1, none⟩ = some (.int .u64 s.nonce) := (hY0.later hw').at' 1 (by simp [Ses.cells]); go_simp) <;> with_reducible rfl)); simp only [Act.put, List.setIfInBounds_toArray, List.set_cons_zero, List.set_cons_succ])
            refine pl_take (d := 44) (v := .bool false) rfl rfl rfl ?_ ?_
            · intro w' hb0 hw'
              go_simp
            simp only [Act.put, List.setIfInBounds_toArray, List.set_cons_zero, List.set_cons_succ]
            (refine pl_take (d := 45) (v := ?_) rfl rfl rfl ?_ ?_; rotate_left; (focus ((intro w' hb0 hw'; go_simp) <;> with_reducible rfl)); simp only [Act.put, List.setIfInBounds_toArray, List.set_cons_zero, List.set_cons_succ])
            (refine pl_take (d := 46) (v := ?_) rfl rfl rfl ?_ ?_; rotate_left; (focus ((intro w' hb0 hw'; go_simp) <;> with_reducible rfl)); simp only [Act.put, List.setIfInBounds_toArray, List.set_cons_zero, List.set_cons_succ])
            (refine pl_skip (d := 47) rfl rfl rfl ?_; simp only [Act.put, List.setIfInBounds_toArray, List.set_cons_zero, List.set_cons_succ])
            (refine pl_skip (d := 48) rfl rfl rfl ?_; simp only [Act.put, List.setIfInBounds_toArray, List.set_cons_zero, List.set_cons_succ])
            (refine pl_skip (d := 49) rfl rfl rfl ?_; simp only [Act.put, List.setIfInBounds_toArray, List.set_cons_zero, List.set_cons_succ])
            (refine pl_skip (d := 50) rfl rfl rfl ?_; simp only [Act.put, List.setIfInBounds_toArray, List.set_cons_zero, List.set_cons_succ])
            (refine pl_skip (d := 51) rfl rfl rfl ?_; simp only [Act.put, List.setIfInBounds_toArray, List.set_cons_zero, List.set_cons_succ])
            (refine pl_skip (d := 52) rfl rfl rfl ?_; simp only [Act.put, List.setIfInBounds_toArray, List.set_cons_zero, List.set_cons_succ])
            (refine pl_skip (d := 53) rfl rfl rfl ?_; simp only [Act.put, List.setIfInBounds_toArray, List.set_cons_zero, List.set_cons_succ])
            (refine pl_skip1 (d := 54) rfl rfl rfl ?_; simp only [Act.put, List.setIfInBounds_toArray, List.set_cons_zero, List.set_cons_succ])
            (refine pl_take (d := 55) (v := ?_) rfl rfl rfl ?_ ?_; rotate_left; (focus ((intro w' hb0 hw'; go_simp) <;> with_reducible rfl)); simp only [Act.put, List.setIfInBounds_toArray, List.set_cons_zero, List.set_cons_succ])
            refine pl_end ?_
            clear f0
            have HY0 := Lib.hid hY0; have HBW := Lib.hid (And.intro hbW hb1)
            clear hY0 hbW hb1
            go_wp2_with fail
            go_roundw
            case measure => (simp [intOf]) <;> omega
            case rel => exact ⟨k + 1, by omega, rfl, HN2, HY0, HBW⟩
        · have HN2 := Lib.hid (HN.out (by unfold twiceD; simp [h2]))
          have G1 : Hid (s.state = 2) := h1; have G2 : Hid (¬ x.role = 2) := h2
          clear HN HY h1 h2
          go_wp2_with fail
          refine wp_region_plan none [] [] (.take 0 (.take 1 (.take 2 (.take 3 (.take 4 (.take 5 (.take 6 (.take 7 (.take 8 (.take 9 (.take 10 (.take 11 (.take 12 (.take 13 (.take 14 (.take 15 (.take 16 (.take 17 (.take 18 (.take 19 (.take 20 (.take 21 (.take 22 (.take 23 (.take 24 (.take 25 (.take 26 (.take 27 (.take 28 (.one 29 (.take 30 .done))))))))))))))))))))))))))))))) (by kernel_rfl) (by kernel_rfl) (fun _ _ dd _ _ h => by cases dd <;> exact h) ?_
          intro W0 hW0
          have hY0 : Blk W0 w.heap.size s.cells := by rw [hW0]; exact hY.out.drew
          have hbW : Below w.heap.size w W0 := by rw [hW0]; exact hB.out.1.drew
          have hb1 : Below w1.heap.size w1 W0 := by rw [hW0]; exact hB.out.2.drew
          have f0 := HA.out.later (below_drew wA)
          rw [← hW0] at f0
          clear hW0
          (refine pl_take (d := 25) (v := ?_) rfl rfl rfl ?_ ?_; rotate_left; (focus ((intro w' hb0 hw'; go_simp) <;> with_reducible rfl)); simp only [Act.put, List.setIfInBounds_toArray, List.set_cons_zero, List.set_cons_succ])
          (refine pl_take (d := 26) (v := ?_) rfl rfl rfl ?_ ?_; rotate_left; (focus ((intro w' hb0 hw'; have y9 : w'.cell? ⟨w.heap.size, 9, none⟩ = some (.int .i64 s.state) := (hY0.later hw').at' 9 (by simp [Ses.cells]); go_simp) <;> with_reducible rfl)); simp only [Act.put, List.setIfInBounds_toArray, List.set_cons_zero, List.set_cons_succ])
          refine pl_take (d := 27) (v := .bool true) rfl rfl rfl ?_ ?_
          · intro w' hb0 hw'
            have hh := G1.out
            go_simp
          simp only [Act.put, List.setIfInBounds_toArray, List.set_cons_zero, List.set_cons_succ]
          (refine pl_take (d := 28) (v := ?_) rfl rfl rfl ?_ ?_; rotate_left; (focus ((intro w' hb0 hw'; go_simp) <;> with_reducible rfl)); simp only [Act.put, List.setIfInBounds_toArray, List.set_cons_zero, List.set_cons_succ])
          (refine pl_take (d := 29) (v := ?_) rfl rfl rfl ?_ ?_; rotate_left; (focus ((intro w' hb0 hw'; go_simp) <;> with_reducible rfl)); simp only [Act.put, List.setIfInBounds_toArray, List.set_cons_zero, List.set_cons_succ])
          (refine pl_take (d := 30) (v := ?_) rfl rfl rfl ?_ ?_; rotate_left; (focus ((intro w' hb0 hw'; go_simp) <;> with_reducible rfl)); simp only [Act.put, List.setIfInBounds_toArray, List.set_cons_zero, List.set_cons_succ])
          (refine pl_take (d := 31) (v := ?_) rfl rfl rfl ?_ ?_; rotate_left; (focus ((intro w' hb0 hw'; go_simp) <;> with_reducible rfl)); simp only [Act.put, List.setIfInBounds_toArray, List.set_cons_zero, List.set_cons_succ])
          (refine pl_take (d := 32) (v := ?_) rfl rfl rfl ?_ ?_; rotate_left; (focus ((intro w' hb0 hw'; go_simp) <;> with_reducible rfl)); simp only [Act.put, List.setIfInBounds_toArray, List.set_cons_zero, List.set_cons_succ])
          (refine pl_take (d := 33) (v := ?_) rfl rfl rfl ?_ ?_; rotate_left; (focus ((intro w' hb0 hw'; have x8 : w'.cell? ⟨b1, p1 + k * 20 + 8, none⟩ = some (.int .i64 x.role) := (f0.later hw').get 8 (by simp [Ses.cells]); go_simp) <;> with_reducible rfl)); simp only [Act.put, List.setIfInBounds_toArray, List.set_cons_zero, List.set_cons_succ])
          refine pl_take (d := 34) (v := .bool false) rfl rfl rfl ?_ ?_
          · intro w' hb0 hw'
            have hh := G2.out
            go_simp
          simp only [Act.put, List.setIfInBounds_toArray, List.set_cons_zero, List.set_cons_succ]
          (refine pl_take (d := 35) (v := ?_) rfl rfl rfl ?_ ?_; rotate_left; (focus ((intro w' hb0 hw'; go_simp) <;> with_reducible rfl)); simp only [Act.put, List.setIfInBounds_toArray, List.set_cons_zero, List.set_cons_succ])
          (refine pl_take (d := 36) (v := ?_) rfl rfl rfl ?_ ?_; rotate_left; (focus ((intro w' hb0 hw'; go_simp) <;> with_reducible rfl)); simp only [Act.put, List.setIfInBounds_toArray, List.set_cons_zero, List.set_cons_succ])
          (refine pl_skip (d := 37) rfl rfl rfl ?_; simp only [Act.put, List.setIfInBounds_toArray, List.set_cons_zero, List.set_cons_succ])
          (refine pl_skip (d := 38) rfl rfl rfl ?_; simp only [Act.put, List.setIfInBounds_toArray, List.set_cons_zero, List.set_cons_succ])
          (refine pl_skip (d := 39) rfl rfl rfl ?_; simp only [Act.put, List.setIfInBounds_toArray, List.set_cons_zero, List.set_cons_succ])
          (refine pl_skip (d := 40) rfl rfl rfl ?_; simp only [Act.put, List.setIfInBounds_toArray, List.set_cons_zero, List.set_cons_succ])
          (refine pl_skip (d := 41) rfl rfl rfl ?_; simp only [Act.put, List.setIfInBounds_toArray, List.set_cons_zero, List.set_cons_succ])
          (refine pl_skip (d := 42) rfl rfl rfl ?_; simp only [Act.put, List.setIfInBounds_toArray, List.set_cons_zero, List.set_cons_succ])
          (refine pl_skip (d := 43) rfl rfl rfl ?_; simp only [Act.put, List.setIfInBounds_toArray, List.set_cons_zero, List.set_cons_succ])
          (refine pl_skip (d := 44) rfl rfl rfl ?_; simp only [Act.put, List.setIfInBounds_toArray, List.set_cons_zero, List.set_cons_succ])
          (refine pl_take (d := 45) (v := ?_) rfl rfl rfl ?_ ?_; rotate_left; (focus ((intro w' hb0 hw'; go_simp) <;> with_reducible rfl)); simp only [Act.put, List.setIfInBounds_toArray, List.set_cons_zero, List.set_cons_succ])
          (refine pl_take (d := 46) (v := ?_) rfl rfl rfl ?_ ?_; rotate_left; (focus ((intro w' hb0 hw'; go_simp) <;> with_reducible rfl)); simp only [Act.put, List.setIfInBounds_toArray, List.set_cons_zero, List.set_cons_succ])
          (refine pl_skip (d := 47) rfl rfl rfl ?_; simp only [Act.put, List.setIfInBounds_toArray, List.set_cons_zero, List.set_cons_succ])
          (refine pl_skip (d := 48) rfl rfl rfl ?_; simp only [Act.put, List.setIfInBounds_toArray, List.set_cons_zero, List.set_cons_succ])
          (refine pl_skip (d := 49) rfl rfl rfl ?_; simp only [Act.put, List.setIfInBounds_toArray, List.set_cons_zero, List.set_cons_succ])
          (refine pl_skip (d := 50) rfl rfl rfl ?_; simp only [Act.put, List.setIfInBounds_toArray, List.set_cons_zero, List.set_cons_succ])
          (refine pl_skip (d := 51) rfl rfl rfl ?_; simp only [Act.put, List.setIfInBounds_toArray, List.set_cons_zero, List.set_cons_succ])
          (refine pl_skip (d := 52) rfl rfl rfl ?_; simp only [Act.put, List.setIfInBounds_toArray, List.set_cons_zero, List.set_cons_succ])
          (refine pl_skip (d := 53) rfl rfl rfl ?_; simp only [Act.put, List.setIfInBounds_toArray, List.set_cons_zero, List.set_cons_succ])
          (refine pl_skip1 (d := 54) rfl rfl rfl ?_; simp only [Act.put, List.setIfInBounds_toArray, List.set_cons_zero, List.set_cons_succ])
          (refine pl_take (d := 55) (v := ?_) rfl rfl rfl ?_ ?_; rotate_left; (focus ((intro w' hb0 hw'; go_simp) <;> with_reducible rfl)); simp only [Act.put, List.setIfInBounds_toArray, List.set_cons_zero, List.set_cons_succ])
          refine pl_end ?_
          clear f0
          have HY0 := Lib.hid hY0; have HBW := Lib.hid (And.intro hbW hb1)
          clear hY0 hbW hb1
          go_wp2_with fail
          go_roundw
          case measure => (simp [intOf]) <;> omega
          case rel => exact ⟨k + 1, by omega, rfl, HN2, HY0, HBW⟩
      · have HN2 := Lib.hid (HN.out (by unfold twiceD; simp [h1]))
        have G1 : Hid (¬ s.state = 2) := h1
        clear HN HY h1
        go_wp2_with fail
        refine wp_region_plan none [] [] (.take 0 (.take 1 (.take 2 (.take 3 (.take 4 (.take 5 (.take 6 (.take 7 (.take 8 (.take 9 (.take 10 (.take 11 (.take 12 (.take 13 (.take 14 (.take 15 (.take 16 (.take 17 (.take 18 (.take 19 (.take 20 (.take 21 (.take 22 (.take 23 (.take 24 (.take 25 (.take 26 (.take 27 (.take 28 (.one 29 (.take 30 .done))))))))))))))))))))))))))))))) (by kernel_rfl) (by kernel_rfl) (fun _ _ dd _ _ h => by cases dd <;> exact h) ?_
        intro W0 hW0
        have hY0 : Blk W0 w.heap.size s.cells := by rw [hW0]; exact hY.out.drew
        have hbW : Below w.heap.size w W0 := by rw [hW0]; exact hB.out.1.drew
        have hb1 : Below w1.heap.size w1 W0 := by rw [hW0]; exact hB.out.2.drew
        have f0 := HA.out.later (below_drew wA)
        rw [← hW0] at f0
        clear hW0
        (refine pl_take (d := 25) (v := ?_) rfl rfl rfl ?_ ?_; rotate_left; (focus ((intro w' hb0 hw'; go_simp) <;> with_reducible rfl)); simp only [Act.put, List.setIfInBounds_toArray, List.set_cons_zero, List.set_cons_succ])
        (refine pl_take (d := 26) (v := ?_) rfl rfl rfl ?_ ?_; rotate_left; (focus ((intro w' hb0 hw'; have y9 : w'.cell? ⟨w.heap.size, 9, none⟩ = some (.int .i64 s.state) := (hY0.later hw').at' 9 (by simp [Ses.cells]); go_simp) <;> with_reducible rfl)); simp only [Act.put, List.setIfInBounds_toArray, List.set_cons_zero, List.set_cons_succ])
        refine pl_take (d := 27) (v := .bool false) rfl rfl rfl ?_ ?_
        · intro w' hb0 hw'
          have hh := G1.out
          go_simp
        simp only [Act.put, List.setIfInBounds_toArray, List.set_cons_zero, List.set_cons_succ]
        (refine pl_take (d := 28) (v := ?_) rfl rfl rfl ?_ ?_; rotate_left; (focus ((intro w' hb0 hw'; go_simp) <;> with_reducible rfl)); simp only [Act.put, List.setIfInBounds_toArray, List.set_cons_zero, List.set_cons_succ])
        (refine pl_skip (d := 29) rfl rfl rfl ?_; simp only [Act.put, List.setIfInBounds_toArray, List.set_cons_zero, List.set_cons_succ])
        (refine pl_skip (d := 30) rfl rfl rfl ?_; simp only [Act.put, List.setIfInBounds_toArray, List.set_cons_zero, List.set_cons_succ])
        (refine pl_skip (d := 31) rfl rfl rfl ?_; simp only [Act.put, List.setIfInBounds_toArray, List.set_cons_zero, List.set_cons_succ])
        (refine pl_skip (d := 32) rfl rfl rfl ?_; simp only [Act.put, List.setIfInBounds_toArray, List.set_cons_zero, List.set_cons_succ])
        (refine pl_skip (d := 33) rfl rfl rfl ?_; simp only [Act.put, List.setIfInBounds_toArray, List.set_cons_zero, List.set_cons_succ])
        (refine pl_skip (d := 34) rfl rfl rfl ?_; simp only [Act.put, List.setIfInBounds_toArray, List.set_cons_zero, List.set_cons_succ])
        (refine pl_take (d := 35) (v := ?_) rfl rfl rfl ?_ ?_; rotate_left; (focus ((intro w' hb0 hw'; go_simp) <;> with_reducible rfl)); simp only [Act.put, List.setIfInBounds_toArray, List.set_cons_zero, List.set_cons_succ])
        (refine pl_take (d := 36) (v := ?_) rfl rfl rfl ?_ ?_; rotate_left; (focus ((intro w' hb0 hw'; go_simp) <;> with_reducible rfl)); simp only [Act.put, List.setIfInBounds_toArray, List.set_cons_zero, List.set_cons_succ])
        (refine pl_skip (d := 37) rfl rfl rfl ?_; simp only [Act.put, List.setIfInBounds_toArray, List.set_cons_zero, List.set_cons_succ])
        (refine pl_skip (d := 38) rfl rfl rfl ?_; simp only [Act.put, List.setIfInBounds_toArray, List.set_cons_zero, List.set_cons_succ])
        (refine pl_skip (d := 39) rfl rfl rfl ?_; simp only [Act.put, List.setIfInBounds_toArray, List.set_cons_zero, List.set_cons_succ])
        (refine pl_skip (d := 40) rfl rfl rfl ?_; simp only [Act.put, List.setIfInBounds_toArray, List.set_cons_zero, List.set_cons_succ])
        (refine pl_skip (d := 41) rfl rfl rfl ?_; simp only [Act.put, List.setIfInBounds_toArray, List.set_cons_zero, List.set_cons_succ])
        (refine pl_skip (d := 42) rfl rfl rfl ?_; simp only [Act.put, List.setIfInBounds_toArray, List.set_cons_zero, List.set_cons_succ])
        (refine pl_skip (d := 43) rfl rfl rfl ?_; simp only [Act.put, List.setIfInBounds_toArray, List.set_cons_zero, List.set_cons_succ])
        (refine pl_skip (d := 44) rfl rfl rfl ?_; simp only [Act.put, List.setIfInBounds_toArray, List.set_cons_zero, List.set_cons_succ])
        (refine pl_take (d := 45) (v := ?_) rfl rfl rfl ?_ ?_; rotate_left; (focus ((intro w' hb0 hw'; go_simp) <;> with_reducible rfl)); simp only [Act.put, List.setIfInBounds_toArray, List.set_cons_zero, List.set_cons_succ])
        (refine pl_take (d := 46) (v := ?_) rfl rfl rfl ?_ ?_; rotate_left; (focus ((intro w' hb0 hw'; go_simp) <;> with_reducible rfl)); simp only [Act.put, List.setIfInBounds_toArray, List.set_cons_zero, List.set_cons_succ])
        (refine pl_skip (d := 47) rfl rfl rfl ?_; simp only [Act.put, List.setIfInBounds_toArray, List.set_cons_zero, List.set_cons_succ])
        (refine pl_skip (d := 48) rfl rfl rfl ?_; simp only [Act.put, List.setIfInBounds_toArray, List.set_cons_zero, List.set_cons_succ])
        (refine pl_skip (d := 49) rfl rfl rfl ?_; simp only [Act.put, List.setIfInBounds_toArray, List.set_cons_zero, List.set_cons_succ])
        (refine pl_skip (d := 50) rfl rfl rfl ?_; simp only [Act.put, List.setIfInBounds_toArray, List.set_cons_zero, List.set_cons_succ])
        (refine pl_skip (d := 51) rfl rfl rfl ?_; simp only [Act.put, List.setIfInBounds_toArray, List.set_cons_zero, List.set_cons_succ])
        (refine pl_skip (d := 52) rfl rfl rfl ?_; simp only [Act.put, List.setIfInBounds_toArray, List.set_cons_zero, List.set_cons_succ])
        (refine pl_skip (d := 53) rfl rfl rfl ?_; simp only [Act.put, List.setIfInBounds_toArray, List.set_cons_zero, List.set_cons_succ])
        (refine pl_skip1 (d := 54) rfl rfl rfl ?_; simp only [Act.put, List.setIfInBounds_toArray, List.set_cons_zero, List.set_cons_succ])
        (refine pl_take (d := 55) (v := ?_) rfl rfl rfl ?_ ?_; rotate_left; (focus ((intro w' hb0 hw'; go_simp) <;> with_reducible rfl)); simp only [Act.put, List.setIfInBounds_toArray, List.set_cons_zero, List.set_cons_succ])
        refine pl_end ?_
        clear f0
        have HY0 := Lib.hid hY0; have HBW := Lib.hid (And.intro hbW hb1)
        clear hY0 hbW hb1
        go_wp2_with fail
        go_roundw
        case measure => (simp [intOf]) <;> omega
        case rel => exact ⟨k + 1, by omega, rfl, HN2, HY0, HBW⟩
    · obtain rfl : k = l.length := by omega
      have HF : Hid (l.any (twiceD s) = false) := by
        show _ = _
        rw [List.any_eq_false]
        intro y hy
        obtain ⟨j, hj, rfl⟩ := List.getElem_of_mem hy
        simp [hS.out j hj hj]
      have hb1 := hB.out.1
      clear hS
      go_wp2
      refine bodyPost_ret (v := .bool false) (by simp [results, Try.results32, go_sem]) rfl ⟨by rw [HR2.out, HF.out], hb1⟩
end Go.Proofs.Ytmfglppgpjplfaa
