/-
  Walks: which requests are late, the code's and the document's.
-/
import Derived.Test.YtmbakknpnilooaaWf
import Derived.Deep.AppendLies
namespace Go.Proofs.Ytmbakknpnilooaa
open Go.RowKit Go.Proofs.Ytmbakknpnilooaa.Plan Go.Proofs.Ytmbakknpnilooaa.Eager
set_option maxHeartbeats 4000000
set_option maxRecDepth 20000
set_option linter.unusedVariables false
set_option linter.unusedSimpArgs false

def lateP (now : Int) (l : List Pd) : List Pd := l.filter fun p => decide (p.til < now)
def restP (now : Int) (l : List Pd) : List Pd := l.filter fun p => !decide (p.til < now)
def lateC (now : Int) (l : List PC) : List PC := l.filter fun p => decide (p.til < now)
def restC (now : Int) (l : List PC) : List PC := l.filter fun p => !decide (p.til < now)
theorem late_c (now : Int) (l : List Pd) : (lateP now l).map Pd.c = lateC now (l.map Pd.c) := by
  unfold lateP lateC; rw [List.filter_map]; rfl
theorem rest_c (now : Int) (l : List Pd) : (restP now l).map Pd.c = restC now (l.map Pd.c) := by
  unfold restP restC; rw [List.filter_map]; rfl
theorem late_yes {now : Int} {l : List Pd} {k : Nat} (h : k < l.length) (hp : l[k].til < now) : lateP now (l.take (k + 1)) = lateP now (l.take k) ++ [l[k]] ∧ restP now (l.take (k + 1)) = restP now (l.take k) := by
  rw [List.take_succ_eq_append_getElem h]; unfold lateP restP
  rw [List.filter_append, List.filter_append]; simp [hp]
theorem late_no {now : Int} {l : List Pd} {k : Nat} (h : k < l.length) (hp : ¬ l[k].til < now) : lateP now (l.take (k + 1)) = lateP now (l.take k) ∧ restP now (l.take (k + 1)) = restP now (l.take k) ++ [l[k]] := by
  rw [List.take_succ_eq_append_getElem h]; unfold lateP restP
  rw [List.filter_append, List.filter_append]; simp [hp]
theorem late_le (now : Int) (l : List Pd) (k : Nat) : (lateP now (l.take k)).length ≤ l.length ∧ (restP now (l.take k)).length ≤ l.length := by
  constructor
  · refine Nat.le_trans (List.length_filter_le _ _) ?_; simp; omega
  · refine Nat.le_trans (List.length_filter_le _ _) ?_; simp; omega
/-- two rows of the call's own, each in a block of its own -/
structure Two (w : World) (base : Nat) (v4 v5 : Value) (A B : List Pd) : Prop where
  o4 : Own w base 32 23 v4 A.length (A.flatMap Pd.cells)
  o5 : Own w base 32 23 v5 B.length (B.flatMap Pd.cells)
  two : ∀ g, v4.ownBlock = some g → v5.ownBlock ≠ some g
theorem Two.later {w w' : World} {base : Nat} {v4 v5 : Value} {A B : List Pd} (h : Two w base v4 v5 A B) (hb : Below w.heap.size w w') : Two w' base v4 v5 A B := ⟨h.o4.later hb, h.o5.later hb, h.two⟩
theorem Two.app4 {w w' : World} {base g cap : Nat} {v4 v5 : Value} {A B : List Pd} {p : Pd} (h : Two w base v4 v5 A B) (hO : Own w' base 32 23 (.slice (some ⟨g, 0, none⟩) (A.length + 1) cap) (A.length + 1) (A.flatMap Pd.cells ++ p.cells)) (hg : w.grownBy w' v4.ownBlock)
    (hw : v4.ownBlock = some g ∨ g = w.heap.size) : Two w' base (.slice (some ⟨g, 0, none⟩) (A.length + 1) cap) v5 (A ++ [p]) B := by
  refine ⟨by simpa using hO, h.o5.grown hg (fun b e e2 => h.two b e2 e), fun g' e e2 => ?_⟩
  cases e
  rcases hw with e3 | rfl
  · exact h.two g e3 e2
  · exact absurd (h.o5.row.lt _ e2).2 (Nat.lt_irrefl _)
theorem Two.app5 {w w' : World} {base g cap : Nat} {v4 v5 : Value} {A B : List Pd} {p : Pd} (h : Two w base v4 v5 A B) (hO : Own w' base 32 23 (.slice (some ⟨g, 0, none⟩) (B.length + 1) cap) (B.length + 1) (B.flatMap Pd.cells ++ p.cells)) (hg : w.grownBy w' v5.ownBlock)
    (hw : v5.ownBlock = some g ∨ g = w.heap.size) : Two w' base v4 (.slice (some ⟨g, 0, none⟩) (B.length + 1) cap) A (B ++ [p]) := by
  refine ⟨h.o4.grown hg (fun b e e2 => h.two b e e2), by simpa using hO, fun g' e e2 => ?_⟩
  cases e2
  rcases hw with e3 | rfl
  · exact h.two g e e3
  · exact absurd (h.o4.row.lt _ e).2 (Nat.lt_irrefl _)
/-- the late ones and the others -/
def LateOut (w : World) (now : Int) (C : List PC) (e : Ending) (w' : World) : Prop :=
  ∃ oa n c A ob m d B, e = .returned (.tuple #[.slice oa n c, .slice ob m d]) ∧ RPd w' oa n c A ∧ RPd w' ob m d B ∧ A.map Pd.c = lateC now C ∧ B.map Pd.c = restC now C ∧ Below w.heap.size w w'
theorem wpList_app_at {P : Program} {w : World} {ops : Array Oper} {rest : List Oper} {o : Oper} {a : Act} {Q : Exit → Act → World → Prop} {s x : Operand} {t e : TypeId} {size bytes : Nat} (E : Elem P t e size bytes) (hgd : o.guard = none)
    (ho : o.op = .call { callee := .builtin .append, args := #[s, x], argTypes := #[t, t] })
    {base : Nat} {v : Value} {n : Nat} {xs : List Value} (hs : a.eval s = v) (hown : Own w base e size v n xs)
    {ad : Addr} {m c : Nat} {cs : List Value} (hx : a.eval x = .slice (some ad) m c) (hm : cs.length = m * size) (hcs : Cells w (some ad) cs) (h1 : ∀ u ∈ cs, u.oneCell' = true) (hpos : 0 < m)
    (h63 : n + m ≤ maxLen) (hbytes : (n + m) * bytes ≤ 140737488355328) (hbase : base ≤ w.heap.size)
    (h : ∀ g cap w', Own w' base e size (.slice (some ⟨g, 0, none⟩) (n + m) cap) (n + m) (xs ++ cs) → w.grownBy w' v.ownBlock → (v.ownBlock = some g ∨ g = w.heap.size) → wpList P ops Q rest (a.put o.dst (.slice (some ⟨g, 0, none⟩) (n + m) cap)) w') : wpList P ops Q (o :: rest) a w :=
  wpList_plain hgd fun _ hK => wp_app_at E ho hs hown hx hm hcs h1 hpos h63 hbytes hbase fun g cap w' h2 h3 h4 => hK _ _ (h g cap w' h2 h3 h4)

theorem late11 (l : List Pd) (now : Int) (w : World) (oa : Option Addr) (n c : Nat) (h : RPd w oa n c l) (hl : l.length ≤ 900) (hs : ∀ p ∈ l, p.m.small) :
    Calls Try.prog 11 #[.slice oa n c, .int .i64 now] w (LateOut w now (l.map Pd.c)) := by
  obtain rfl : n = l.length := h.rows.rows.len
  have H := Lib.hid h; have HL := Lib.hid hl; have HS := Lib.hid hs
  clear h hl hs
  go_enter Try.func11, Try.ntmps11
  go_wp2_with fail
  refine (copy8 l _ oa _ c H.out HL.out HS.out).mono ?_
  rintro r w1 ⟨v, Q, rfl, hC, hb⟩
  have HQC : Hid (Q.map Pd.c = l.map Pd.c) := hC.c
  have HQL : Hid (Q.length ≤ 900) := by show _ ≤ _; rw [hC.len]; exact HL.out
  obtain ⟨oo, cc, rfl, hR⟩ := hC.rpd
  have HQ := Lib.hid hR
  have HB := Lib.hid hb
  clear hb hC hR H HS HL
  go_wp2_with fail
  go_loopw [4, 5, 7, 11] (fun v4 v5 _ u wr => ∃ k : Nat, k ≤ Q.length ∧ u = .int .i64 k ∧ Hid (Two wr w1.heap.size v4 v5 (lateP now (Q.take k)) (restP now (Q.take k))) ∧ Hid (Below w1.heap.size w1 wr)) (fun _ _ _ u _ => Q.length - (intOf u).toNat)
  case atStart => exact ⟨0, by omega, rfl, Lib.hid ⟨Own.nil _ _ _ _, Own.nil _ _ _ _, fun _ h => by cases h⟩, Lib.hid (Below.refl _ _)⟩
  case round =>
    obtain ⟨k, hk, rfl, hT, hB⟩ := hrel
    by_cases hlt : k < Q.length
    · have hi1 : (k : Int) < (Q.length : Int) := by omega
      have rk : IntKind.i64.wrap ((k : Int) + 1) = ((k + 1 : Nat) : Int) := by
        have h1 := HQL.out
        rw [IntKind.wrap_i64]; omega
      obtain ⟨b1, p1, rfl, hA⟩ := (HQ.out.below hB.out).rows.rows.pd hlt
      have hle := late_le now Q k
      have HLE : Hid ((lateP now (Q.take k)).length ≤ 900 ∧ (restP now (Q.take k)).length ≤ 900) := by show _ ∧ _; have := HQL.out; omega
      have HY := Lib.hid (late_yes (now := now) hlt); have HN := Lib.hid (late_no (now := now) hlt)
      obtain ⟨p, hp⟩ : ∃ p, Q[k] = p := ⟨_, rfl⟩
      rw [hp] at hA HY HN
      have HA := Lib.hid hA
      clear hp hA hle
      obtain ⟨wA, rfl⟩ : ∃ x, x = wr := ⟨_, rfl⟩
      have hal : Below wA.heap.size wA (wA.alloc (.cells pd0.cells.toArray 32)) := (Below.refl _ _).alloc (Nat.le_refl _) _
      have hZ : Blk (wA.alloc (.cells pd0.cells.toArray 32)) wA.heap.size pd0.cells := Blk.new' rfl
      have HAL := Lib.hid hal; have HZ := Lib.hid hZ
      clear hal hZ
      by_cases hq : p.til < now
      · obtain ⟨e1, e2⟩ := HY.out hq
        rw [← e2] at hT
        have HE1 := Lib.hid e1
        clear HY HN e1 e2
        obtain ⟨L4, hL4⟩ : ∃ q, lateP now (Q.take k) = q := ⟨_, rfl⟩
        rw [hL4] at hT HE1 HLE
        clear hL4
        go_wp2_with (refine stop_load (ty := 32) rfl ?_)
        refine ⟨wpList_load_at rfl rfl HA.out (by rfl) row32 ?_⟩
        go_wp2_with (refine stop_store (ty := 32) rfl ?_)
        refine ⟨wpList_store_blk rfl rfl HZ.out (by rfl) (vs := p.cells) (by rfl) row32 rfl (pd_one p) ?_⟩
        intro W5 hX5 hg5
        have hbk5 := Below.grownB HAL.out hg5 (Nat.le_refl _) HAL.out.size
        have HT5 := Lib.hid (hT.out.later hbk5); have HB5 := Lib.hid (below_step hB.out hbk5)
        have x3 : W5.cell? ⟨wA.heap.size, 3, none⟩ = some (.int .i64 p.til) := pd_at hX5 3 (by omega)
        have hxl := hX5.lt
        have HX5 := Lib.hid hX5
        clear hX5 hg5 hbk5 HAL HZ HA hT hB
        have hal : Below W5.heap.size W5 (W5.alloc (.cells p.cells.toArray 32)) := (Below.refl _ _).alloc (Nat.le_refl _) _
        have HNW := Lib.hid (Blk.new' (w := W5) (cs := p.cells) (e := 32) (b := W5.heap.size) rfl)
        have HT6 := Lib.hid (HT5.out.later hal); have HB6 := Lib.hid (below_step HB5.out hal)
        clear hal HT5 HB5
        go_wp2_with (refine stop_load (ty := 32) rfl ?_)
        refine ⟨wpList_load_blk rfl rfl HX5.out (by rfl) row32 ?_⟩
        clear x3 hxl
        have hlc := cells_23 p
        go_wp2_with (refine stop_append rfl ?_)
        rw [fold_pd p]
        clear hlc
        have hlen := HLE.out
        refine ⟨wpList_app_at el22 rfl (by rfl) (by rfl) HT6.out.o4 (by rfl) (m := 1) rfl HNW.out.cells (pd_one p) (by omega) (by simp [maxLen]; omega) (by omega) HB6.out.size ?_⟩
        intro g cap W7 hO7 hg7 hw7
        have hb7 := HT6.out.o4.below hg7 HB6.out (Nat.le_refl _) HB6.out.size
        have hT7 := HT6.out.app4 hO7 hg7 hw7
        rw [← HE1.out] at hT7
        have HT7 := Lib.hid hT7; have HB7 := Lib.hid hb7
        clear hO7 hg7 hw7 hb7 hT7 hlen HT6 HB6 HNW HX5
        go_wp2_with fail
        go_roundw
        case measure => (simp [intOf]) <;> omega
        case rel => exact ⟨k + 1, by omega, rfl, HT7, HB7⟩
      · obtain ⟨e1, e2⟩ := HN.out hq
        rw [← e1] at hT
        have HE1 := Lib.hid e2
        clear HY HN e1 e2
        obtain ⟨L5, hL5⟩ : ∃ q, restP now (Q.take k) = q := ⟨_, rfl⟩
        rw [hL5] at hT HE1 HLE
        clear hL5
        go_wp2_with (refine stop_load (ty := 32) rfl ?_)
        refine ⟨wpList_load_at rfl rfl HA.out (by rfl) row32 ?_⟩
        go_wp2_with (refine stop_store (ty := 32) rfl ?_)
        refine ⟨wpList_store_blk rfl rfl HZ.out (by rfl) (vs := p.cells) (by rfl) row32 rfl (pd_one p) ?_⟩
        intro W5 hX5 hg5
        have hbk5 := Below.grownB HAL.out hg5 (Nat.le_refl _) HAL.out.size
        have HT5 := Lib.hid (hT.out.later hbk5); have HB5 := Lib.hid (below_step hB.out hbk5)
        have x3 : W5.cell? ⟨wA.heap.size, 3, none⟩ = some (.int .i64 p.til) := pd_at hX5 3 (by omega)
        have hxl := hX5.lt
        have HX5 := Lib.hid hX5
        clear hX5 hg5 hbk5 HAL HZ HA hT hB
        have hal : Below W5.heap.size W5 (W5.alloc (.cells p.cells.toArray 32)) := (Below.refl _ _).alloc (Nat.le_refl _) _
        have HNW := Lib.hid (Blk.new' (w := W5) (cs := p.cells) (e := 32) (b := W5.heap.size) rfl)
        have HT6 := Lib.hid (HT5.out.later hal); have HB6 := Lib.hid (below_step HB5.out hal)
        clear hal HT5 HB5
        go_wp2_with (refine stop_load (ty := 32) rfl ?_)
        refine ⟨wpList_load_blk rfl rfl HX5.out (by rfl) row32 ?_⟩
        clear x3 hxl
        have hlc := cells_23 p
        go_wp2_with (refine stop_append rfl ?_)
        rw [fold_pd p]
        clear hlc
        have hlen := HLE.out
        refine ⟨wpList_app_at el22 rfl (by rfl) (by rfl) HT6.out.o5 (by rfl) (m := 1) rfl HNW.out.cells (pd_one p) (by omega) (by simp [maxLen]; omega) (by omega) HB6.out.size ?_⟩
        intro g cap W7 hO7 hg7 hw7
        have hb7 := HT6.out.o5.below hg7 HB6.out (Nat.le_refl _) HB6.out.size
        have hT7 := HT6.out.app5 hO7 hg7 hw7
        rw [← HE1.out] at hT7
        have HT7 := Lib.hid hT7; have HB7 := Lib.hid hb7
        clear hO7 hg7 hw7 hb7 hT7 hlen HT6 HB6 HNW HX5
        go_wp2_with fail
        go_roundw
        case measure => (simp [intOf]) <;> omega
        case rel => exact ⟨k + 1, by omega, rfl, HT7, HB7⟩
    · obtain rfl : k = Q.length := by omega
      rw [List.take_length] at hT
      obtain ⟨o4, c4, rfl, hR4⟩ := Own.rws hT.out.o4 rfl
      obtain ⟨o5, c5, rfl, hR5⟩ := Own.rws hT.out.o5 rfl
      have HF : Hid (RPd wr o4 (lateP now Q).length c4 (lateP now Q) ∧ RPd wr o5 (restP now Q).length c5 (restP now Q)) :=
        ⟨⟨hR4, fun p hp => (HQ.out.good p (List.mem_filter.1 hp).1).below hB.out⟩, ⟨hR5, fun p hp => (HQ.out.good p (List.mem_filter.1 hp).1).below hB.out⟩⟩
      have HB2 := Lib.hid (below_step HB.out hB.out)
      clear hT hB hR4 hR5
      go_wp2
      refine bodyPost_ret (v := .tuple #[.slice o4 (lateP now Q).length c4, .slice o5 (restP now Q).length c5]) (by simp [results, Try.results11, go_sem]) rfl ?_
      exact ⟨_, _, _, _, _, _, _, _, rfl, HF.out.1, HF.out.2, by rw [late_c, HQC.out], by rw [rest_c, HQC.out], HB2.out⟩
theorem refLate12 (l : List Pd) (now : Int) (w : World) (oa : Option Addr) (n c : Nat) (h : RPd w oa n c l) (hl : l.length ≤ 900) :
    Calls Try.prog 12 #[.slice oa n c, .int .i64 now] w (LateOut w now (l.map Pd.c)) := by
  obtain rfl : n = l.length := h.rows.rows.len
  have H := Lib.hid h; have HL := Lib.hid hl
  clear h hl
  go_enter Try.func12, Try.ntmps12
  go_wp2_with fail
  go_loopw [6, 7, 8] (fun v4 v5 u wr => ∃ k : Nat, k ≤ l.length ∧ u = .int .i64 k ∧ Hid (Two wr w.heap.size v4 v5 (lateP now (l.take k)) (restP now (l.take k))) ∧ Hid (Below w.heap.size w wr)) (fun _ _ u _ => l.length - (intOf u).toNat)
  case atStart => exact ⟨0, by omega, rfl, Lib.hid ⟨Own.nil _ _ _ _, Own.nil _ _ _ _, fun _ h => by cases h⟩, Lib.hid (Below.refl _ _)⟩
  case round =>
    obtain ⟨k, hk, rfl, hT, hB⟩ := hrel
    by_cases hlt : k < l.length
    · have hi1 : (k : Int) < (l.length : Int) := by omega
      have rk : IntKind.i64.wrap ((k : Int) + 1) = ((k + 1 : Nat) : Int) := by
        have h1 := HL.out
        rw [IntKind.wrap_i64]; omega
      obtain ⟨b1, p1, rfl, hA⟩ := (H.out.below hB.out).rows.rows.pd hlt
      have hle := late_le now l k
      have HLE : Hid ((lateP now (l.take k)).length ≤ 900 ∧ (restP now (l.take k)).length ≤ 900) := by show _ ∧ _; have := HL.out; omega
      have HY := Lib.hid (late_yes (now := now) hlt); have HN := Lib.hid (late_no (now := now) hlt)
      obtain ⟨p, hp⟩ : ∃ p, l[k] = p := ⟨_, rfl⟩
      rw [hp] at hA HY HN
      have HA := Lib.hid hA
      obtain ⟨wA, rfl⟩ : ∃ x, x = wr := ⟨_, rfl⟩
      have x3 : wA.cell? ⟨b1, p1 + k * 23 + 3, none⟩ = some (.int .i64 p.til) := hA.get 3 (by simp [Pd.cells])
      have hxl := hA.lt
      clear hp hA hle
      have hal : Below wA.heap.size wA (wA.alloc (.cells p.cells.toArray 32)) := (Below.refl _ _).alloc (Nat.le_refl _) _
      have HNW := Lib.hid (Blk.new' (w := wA) (cs := p.cells) (e := 32) (b := wA.heap.size) rfl)
      by_cases hq : p.til < now
      · obtain ⟨e1, e2⟩ := HY.out hq
        rw [← e2] at hT
        have HE1 := Lib.hid e1
        clear HY HN e1 e2
        obtain ⟨L4, hL4⟩ : ∃ q, lateP now (l.take k) = q := ⟨_, rfl⟩
        rw [hL4] at hT HE1 HLE
        clear hL4
        have HT6 := Lib.hid (hT.out.later hal); have HB6 := Lib.hid (below_step hB.out hal)
        clear hal hT hB
        go_wp2_with (refine stop_load (ty := 32) rfl ?_)
        refine ⟨wpList_load_at rfl rfl HA.out (by rfl) row32 ?_⟩
        clear x3
        have hlc := cells_23 p
        go_wp2_with (refine stop_append rfl ?_)
        rw [fold_pd p]
        clear hlc
        have hlen := HLE.out
        refine ⟨wpList_app_at el22 rfl (by rfl) (by rfl) HT6.out.o4 (by rfl) (m := 1) rfl HNW.out.cells (pd_one p) (by omega) (by simp [maxLen]; omega) (by omega) HB6.out.size ?_⟩
        intro g cap W7 hO7 hg7 hw7
        have hb7 := HT6.out.o4.below hg7 HB6.out (Nat.le_refl _) HB6.out.size
        have hT7 := HT6.out.app4 hO7 hg7 hw7
        rw [← HE1.out] at hT7
        have HT7 := Lib.hid hT7; have HB7 := Lib.hid hb7
        clear hO7 hg7 hw7 hb7 hT7 hlen HT6 HB6 HNW HA hxl
        go_wp2_with fail
        go_roundw
        case measure => (simp [intOf]) <;> omega
        case rel => exact ⟨k + 1, by omega, rfl, HT7, HB7⟩
      · obtain ⟨e1, e2⟩ := HN.out hq
        rw [← e1] at hT
        have HE1 := Lib.hid e2
        clear HY HN e1 e2
        obtain ⟨L5, hL5⟩ : ∃ q, restP now (l.take k) = q := ⟨_, rfl⟩
        rw [hL5] at hT HE1 HLE
        clear hL5
        have HT6 := Lib.hid (hT.out.later hal); have HB6 := Lib.hid (below_step hB.out hal)
        clear hal hT hB
        go_wp2_with (refine stop_load (ty := 32) rfl ?_)
        refine ⟨wpList_load_at rfl rfl HA.out (by rfl) row32 ?_⟩
        clear x3
        have hlc := cells_23 p
        go_wp2_with (refine stop_append rfl ?_)
        rw [fold_pd p]
        clear hlc
        have hlen := HLE.out
        refine ⟨wpList_app_at el22 rfl (by rfl) (by rfl) HT6.out.o5 (by rfl) (m := 1) rfl HNW.out.cells (pd_one p) (by omega) (by simp [maxLen]; omega) (by omega) HB6.out.size ?_⟩
        intro g cap W7 hO7 hg7 hw7
        have hb7 := HT6.out.o5.below hg7 HB6.out (Nat.le_refl _) HB6.out.size
        have hT7 := HT6.out.app5 hO7 hg7 hw7
        rw [← HE1.out] at hT7
        have HT7 := Lib.hid hT7; have HB7 := Lib.hid hb7
        clear hO7 hg7 hw7 hb7 hT7 hlen HT6 HB6 HNW HA hxl
        go_wp2_with fail
        go_roundw
        case measure => (simp [intOf]) <;> omega
        case rel => exact ⟨k + 1, by omega, rfl, HT7, HB7⟩
    · obtain rfl : k = l.length := by omega
      rw [List.take_length] at hT
      obtain ⟨o4, c4, rfl, hR4⟩ := Own.rws hT.out.o4 rfl
      obtain ⟨o5, c5, rfl, hR5⟩ := Own.rws hT.out.o5 rfl
      have HF : Hid (RPd wr o4 (lateP now l).length c4 (lateP now l) ∧ RPd wr o5 (restP now l).length c5 (restP now l)) :=
        ⟨⟨hR4, fun p hp => (H.out.good p (List.mem_filter.1 hp).1).below hB.out⟩, ⟨hR5, fun p hp => (H.out.good p (List.mem_filter.1 hp).1).below hB.out⟩⟩
      have HB2 := Lib.hid hB.out
      clear hT hB hR4 hR5
      go_wp2
      refine bodyPost_ret (v := .tuple #[.slice o4 (lateP now l).length c4, .slice o5 (restP now l).length c5]) (by simp [results, Try.results12, go_sem]) rfl ?_
      exact ⟨_, _, _, _, _, _, _, _, rfl, HF.out.1, HF.out.2, late_c _ _, rest_c _ _, HB2.out⟩
end Go.Proofs.Ytmbakknpnilooaa
