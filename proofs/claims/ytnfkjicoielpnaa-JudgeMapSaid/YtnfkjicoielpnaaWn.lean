/-
  The law's walk: a map that is told.
-/
import Derived.Test.YtnfkjicoielpnaaWo
import Derived.Test.YtnfkjicoielpnaaPlan2
import Derived.Deep.CutRange
import Derived.Deep.CutBlock
namespace Go.Proofs.Ytnfkjicoielpnaa
open Go.RowKit Go.Proofs.Ytnfkjicoielpnaa.Eager Go.Proofs.Ytnfkjicoielpnaa.Plan
set_option maxHeartbeats 4000000
set_option maxRecDepth 20000
set_option linter.unusedVariables false
set_option linter.unusedSimpArgs false

theorem Own.grown' {w w' : World} {base : Nat} {e : TypeId} {size : Nat} {v : Value} {n : Nat} {xs : List Value} {row : Option Nat} (h : Own w base e size v n xs) (hg : w.grownBy w' row) (hne : ∀ b, v.ownBlock = some b → row ≠ some b) : Own w' base e size v n xs := by
  obtain ⟨h1, h2⟩ := h.row
  refine ⟨h1, ?_⟩
  rcases h2 with h2 | ⟨g, cap, cur, hv, hg', hh, r⟩
  · exact .inl h2
  · have hlt : g < w.heap.size := by
      by_cases hl : g < w.heap.size
      · exact hl
      · rw [Array.getElem?_eq_none (by omega)] at hh; cases hh
    exact .inr ⟨g, cap, cur, hv, hg', by rw [hg.block g hlt (fun e => hne g (by rw [hv]; rfl) e.symm)]; exact hh, r⟩

/-- both rows of the call's own, and the round's result, each in a block of its own -/
structure Duo (w : World) (base : Nat) (v4 v5 : Value) (m : List It) (told : List Res) : Prop where
  o4 : Own w base 44 4 v4 m.length (m.flatMap It.cells)
  o5 : Own w base 36 8 v5 told.length (told.flatMap Res.cells)
  two : ∀ g, v4.ownBlock = some g → v5.ownBlock ≠ some g
theorem Duo.later {w w' : World} {base : Nat} {v4 v5 : Value} {m : List It} {told : List Res} (h : Duo w base v4 v5 m told) (hb : Below w.heap.size w w') : Duo w' base v4 v5 m told :=
  ⟨h.o4.later hb, h.o5.later hb, h.two⟩
theorem Duo.lt4 {w : World} {base : Nat} {v4 v5 : Value} {m : List It} {told : List Res} (h : Duo w base v4 v5 m told) {g : Nat} (e : v4.ownBlock = some g) : g < w.heap.size := (h.o4.row.lt g e).2
theorem Duo.lt5 {w : World} {base : Nat} {v4 v5 : Value} {m : List It} {told : List Res} (h : Duo w base v4 v5 m told) {g : Nat} (e : v5.ownBlock = some g) : g < w.heap.size := (h.o5.row.lt g e).2
theorem Duo.app4 {w w' : World} {base : Nat} {v4 v5 v4' : Value} {m m' : List It} {told : List Res} (h : Duo w base v4 v5 m told) (hO : Own w' base 44 4 v4' m'.length (m'.flatMap It.cells)) (hg : w.grownBy w' v4.ownBlock)
    (hw : ∀ g, v4'.ownBlock = some g → v4.ownBlock = some g ∨ g = w.heap.size) : Duo w' base v4' v5 m' told := by
  refine ⟨hO, h.o5.grown' hg (fun b e e2 => h.two b e2 e), fun g e e2 => ?_⟩
  rcases hw g e with e3 | rfl
  · exact h.two g e3 e2
  · have := h.lt5 e2; omega
theorem Duo.app5 {w w' : World} {base : Nat} {v4 v5 v5' : Value} {m : List It} {told told' : List Res} (h : Duo w base v4 v5 m told) (hO : Own w' base 36 8 v5' told'.length (told'.flatMap Res.cells)) (hg : w.grownBy w' v5.ownBlock)
    (hw : ∀ g, v5'.ownBlock = some g → v5.ownBlock = some g ∨ g = w.heap.size) : Duo w' base v4 v5' m told' := by
  refine ⟨h.o4.grown' hg (fun b e e2 => h.two b e e2), hO, fun g e e2 => ?_⟩
  rcases hw g e2 with e3 | rfl
  · exact h.two g e e3
  · have := h.lt4 e; omega
theorem Own.it {w : World} {base g cap : Nat} {m : List It} {n : Nat} (h : Own w base 44 4 (.slice (some ⟨g, 0, none⟩) n cap) m.length (m.flatMap It.cells)) {j : Nat} {x : It} (hx : m[j]? = some x) :
    w.cell? ⟨g, j * 4, none⟩ = some (.string x.key) ∧ w.cell? ⟨g, j * 4 + 1, none⟩ = some (.string x.val) ∧ w.cell? ⟨g, j * 4 + 2, none⟩ = some (.int .i64 x.ver) ∧ w.cell? ⟨g, j * 4 + 3, none⟩ = some (.bool x.gone) := by
  obtain ⟨hj, hx⟩ := List.getElem?_eq_some_iff.1 hx
  obtain ⟨oa, c, e, hR⟩ := Own.rws h rfl
  cases e
  obtain ⟨b, o, e, hlt, h0, h1, h2, h3⟩ := hR.rows.it hj
  cases e
  simp only [Nat.zero_add, hx] at h0 h1 h2 h3
  exact ⟨h0, h1, h2, h3⟩
theorem Duo.at4 {w : World} {base : Nat} {v4 v5 : Value} {m : List It} {told : List Res} (h : Duo w base v4 v5 m told) {j : Nat} {x : It} (hx : m[j]? = some x) : ∃ g cap, v4 = .slice (some ⟨g, 0, none⟩) m.length cap ∧ g < w.heap.size ∧ m.length ≤ cap := by
  obtain ⟨hj, -⟩ := List.getElem?_eq_some_iff.1 hx
  obtain ⟨g, c, e, h1, h2, h3, h4⟩ := h.o4.blk (by omega)
  exact ⟨g, c, e, h4.lt, h1⟩
theorem Duo.put {w w' : World} {base g n cap j : Nat} {v5 : Value} {m : List It} {told : List Res} (h : Duo w base (.slice (some ⟨g, 0, none⟩) n cap) v5 m told) (hj : j < m.length) {y : It} (hn : n = m.length)
    (hO : Own w' base 44 4 (.slice (some ⟨g, 0, none⟩) n cap) n ((m.flatMap It.cells).take (j * 4) ++ y.cells ++ (m.flatMap It.cells).drop (j * 4 + y.cells.length))) (hg : w.grownBy w' (some g)) :
    Duo w' base (.slice (some ⟨g, 0, none⟩) n cap) v5 (m.set j y) told := by
  subst hn
  have e1 : y.cells.length = 4 := rfl
  rw [e1, flat_set (k := 4) (fun _ => rfl) m j y hj] at hO
  refine h.app4 (v4' := .slice (some ⟨g, 0, none⟩) m.length cap) ?_ hg (fun g' e => .inl e)
  rw [List.length_set]; exact hO
theorem Below.grown_any {w w' : World} (h : Below w.heap.size w w') (r : Option Nat) : w.grownBy w' r := ⟨h.os, h.tape, h.output, h.size, fun k hk _ => h.block k hk⟩
theorem turn1_ver {x : It} {r : Res} {k : Nat} (h : 0 ≤ x.ver ∧ x.ver ≤ k) : 0 ≤ (turn1 x r).ver ∧ (turn1 x r).ver ≤ k + 1 := by
  unfold turn1
  by_cases h1 : r.kind = 1 <;> simp [h1] <;> omega
theorem setOf_len {α : Type} (m : List α) (j : Nat) (y : α) : (m.set j y).length = m.length := List.length_set

/-- which place has the key -/
def Found (m : List It) (key : ByteArray) (i : Nat) (v : Value) : Prop :=
  (v = .int .i64 (-1) ∧ ∀ j (hj : j < m.length), j < i → m[j].key ≠ key) ∨ (∃ j, ∃ hj : j < m.length, v = .int .i64 (j : Int) ∧ m[j].key = key)

theorem judgeMap5 (l : List Res) (w : World) (oa : Option Addr) (n c : Nat) (h : RRes w oa n c l) :
    Calls Try.prog 5 #[.slice oa n c] w fun r w' => r = .returned (.bool true) ∧ Below w.heap.size w w' := by
  obtain rfl : n = l.length := h.rows.len
  have H := Lib.hid h; clear h
  go_enter Try.func5, Try.ntmps5
  go_wp2_with fail
  refine (works15 w).mono ?_
  rintro r w1 ⟨rfl, hb⟩
  replace H := Lib.hid (H.out.below hb); have HB := Lib.hid hb; clear hb
  go_wp2_with fail
  refine (great6 l w1 oa _ c H.out).mono ?_
  rintro r w2 ⟨⟨b, rfl, hbl⟩, hb⟩
  replace H := Lib.hid (H.out.below hb); replace HB := Lib.hid (below_step HB.out hb); have HBL := Lib.hid hbl; clear hb hbl
  cases b with
  | true =>
    go_wp2
    refine bodyPost_ret (v := .bool true) (by simp [results, Try.results5, go_sem]) rfl ⟨rfl, HB.out⟩
  | false =>
  have hl : l.length ≤ 100 := HBL.out rfl
  have HL := Lib.hid hl; clear hl HBL
  go_wp2_with fail
  refine (judge7 l w2 oa _ c H.out (by have := HL.out; omega)).mono ?_
  rintro r w3 ⟨rfl, hb⟩
  replace H := Lib.hid (H.out.below hb); replace HB := Lib.hid (below_step HB.out hb); clear hb
  have HPRE := Lib.hid (fun h => judgeD_pre l h (l.length - 1))
  obtain ⟨J, hJ⟩ : ∃ J, judgeD l = J := ⟨_, rfl⟩
  rw [hJ] at HPRE ⊢
  clear hJ
  go_upto_region 6 with fail
  go_cut [3, 19, 35] from 20 to 35 (fun _ _ v wx => v = .bool false ∧ Hid (Below w3.heap.size w3 wx))
  case first =>
    by_cases hJ1 : J = -1
    · subst hJ1
      by_cases hpos : 0 < l.length
      · have hp1 : (0 : Int) < (l.length : Int) := by omega
        have rs : IntKind.i64.wrap ((l.length : Int) - 1) = ((l.length - 1 : Nat) : Int) := by
          have h1 := HL.out
          rw [IntKind.wrap_i64]; omega
        obtain ⟨p, hp⟩ : ∃ p, l.length - 1 = p := ⟨_, rfl⟩
        have hple : p ≤ l.length := by omega
        have hTK := H.out.take hple
        have HTK := Lib.hid hTK
        have hpc : (p : Int) ≤ (c : Int) := by have := H.out.le; omega
        have hpc' : p ≤ c := by omega
        rw [hp] at rs HPRE
        have HPL : Hid (p ≤ 100) := by show _ ≤ _; have := HL.out; omega
        have HPLE := Lib.hid hple
        clear hTK hp hple hpos
        go_wp2_with fail
        refine (judge7 (l.take p) w3 oa p c HTK.out (by have := HPL.out; simp; omega)).mono ?_
        rintro r w4 ⟨rfl, hb⟩
        rw [HPRE.out (by trivial)]
        have HB4 := Lib.hid hb; clear hb
        go_wp2_with fail
        go_meet
        case rel => exact ⟨rfl, HB4⟩
      · have hp1 : ¬ (0 : Int) < (l.length : Int) := by omega
        clear hpos
        go_wp2_with fail
        go_meet
        case rel => exact ⟨rfl, Lib.hid (Below.refl _ _)⟩
    · go_wp2_with fail
      go_meet
      case rel => exact ⟨rfl, Lib.hid (Below.refl _ _)⟩
  case rest =>
    obtain ⟨rfl, hb⟩ := hcut
    generalize wc = w4 at *
    replace H := Lib.hid (H.out.below hb.out); replace HB := Lib.hid (below_step HB.out hb.out); clear hb HPRE
    go_wp2_with fail
    go_loopw [4, 5, 38] (fun v4 v5 u wr => ∃ (k : Nat) (m : List It) (told : List Res), k ≤ l.length ∧ u = .int .i64 k ∧ Hid (Inv k m told) ∧ Hid (Duo wr w4.heap.size v4 v5 m told) ∧ Hid (Below w4.heap.size w4 wr)) (fun _ _ u _ => l.length - (intOf u).toNat)
    case atStart => exact ⟨0, [], [], by omega, rfl, Lib.hid Inv.start, Lib.hid ⟨Own.nil _ _ _ _, Own.nil _ _ _ _, by simp [Value.ownBlock]⟩, Lib.hid (Below.refl _ _)⟩
    case round =>
      obtain ⟨k, m, told, hk, rfl, hI, hD, hbel⟩ := hrel
      obtain ⟨wA, rfl⟩ : ∃ x, x = wr := ⟨_, rfl⟩
      by_cases hlt : k < l.length
      · have hi1 : (k : Int) < (l.length : Int) := by omega
        have rk : IntKind.i64.wrap ((k : Int) + 1) = ((k + 1 : Nat) : Int) := by
          have h1 := HL.out
          rw [IntKind.wrap_i64]; omega
        have hk100 : k ≤ 100 := by have := HL.out; omega
        have HK := Lib.hid hk100; clear hk100
        obtain ⟨b1, p1, rfl, hb1, e0, e1, e2, e3, e4, e5, e6, e7⟩ := (H.out.rows.below hbel.out).res hlt
        obtain ⟨r, hr'⟩ : ∃ q, l[k] = q := ⟨_, rfl⟩
        rw [hr'] at e0 e1 e2 e3 e4 e5 e6 e7
        clear hr'
        obtain ⟨o4, c4, rfl, hR4⟩ := Own.rws hD.out.o4 rfl
        obtain ⟨b7, hb7⟩ : ∃ b, wA.heap.size = b := ⟨_, rfl⟩
        have hal : Below wA.heap.size wA (wA.alloc (.cells r.cells.toArray 36)) := (Below.refl _ _).alloc (Nat.le_refl _) _
        have HR4 := Lib.hid hR4
        have HB7 : Hid (Blk (wA.alloc (.cells r.cells.toArray 36)) b7 r.cells) := Blk.new' hb7.symm
        have HD := hD
        have HBEL := hbel
        have H4 : Hid (∀ g, (Value.slice o4 m.length c4).ownBlock = some g → g ≠ b7) := fun g e => by have := hD.out.lt4 e; omega
        have H5 : Hid (∀ g, u5.ownBlock = some g → g ≠ b7) := fun g e => by have := hD.out.lt5 e; omega
        have HZ : Hid (w4.heap.size ≤ b7) := by have := hbel.out.size; show _ ≤ _; omega
        have HS7 := Lib.hid hb7
        clear hal hD hbel hb7 hR4
        go_upto_block 2 with fail
        rw [HS7.out]
        clear e0 e1 e2 e3 e4 e5 e6 e7
        go_cut [8, 38] from 38 to 127 (fun v8 v38 wx => v38 = .int .i64 k ∧ Found m r.key m.length v8 ∧ Hid (Below wA.heap.size wA wx) ∧ Hid (Blk wx b7 r.cells))
        case first =>
          go_wp2_with fail
          go_loopw [8, 44] (fun v8 u wx => ∃ i : Nat, i ≤ m.length ∧ u = .int .i64 i ∧ Hid (Found m r.key i v8) ∧ Hid (Below wA.heap.size wA wx) ∧ Hid (Blk wx b7 r.cells)) (fun _ u _ => m.length - (intOf u).toNat)
          case atStart => exact ⟨0, by omega, rfl, Lib.hid (.inl ⟨rfl, fun j _ h => by omega⟩), Lib.hid ((Below.refl _ _).alloc (Nat.le_refl _) _), HB7⟩
          case round =>
            obtain ⟨i, hi, rfl, hF, hb, hB7⟩ := hrel
            by_cases hil : i < m.length
            · have hi2 : (i : Int) < (m.length : Int) := by omega
              have ri : IntKind.i64.wrap ((i : Int) + 1) = ((i + 1 : Nat) : Int) := by
                have h1 := HL.out
                have h2 := hI.out.mlen
                have h3 := HK.out
                rw [IntKind.wrap_i64]; omega
              obtain ⟨b2, p2, rfl, hb2, d0, d1, d2, d3⟩ := (HR4.out.rows.below hb.out).it hil
              have c3 := hB7.out.at' 3 (by simp [Res.cells])
              have hl7 := hB7.out.lt
              simp only [Res.cells, List.getElem_cons_succ, List.getElem_cons_zero] at c3
              have HN : Hid (m[i].key ≠ r.key → Found m r.key (i + 1) u8) := by
                intro hne
                rcases hF.out with ⟨e, hall⟩ | h
                · refine .inl ⟨e, fun j hj hji => ?_⟩
                  by_cases e2 : j = i
                  · subst e2; exact hne
                  · exact hall j hj (by omega)
                · exact .inr h
              have HY : Hid (m[i].key = r.key → Found m r.key (i + 1) (.int .i64 (i : Int))) := fun he => .inr ⟨i, hil, rfl, he⟩
              obtain ⟨q, hq⟩ : ∃ q, m[i] = q := ⟨_, rfl⟩
              rw [hq] at d0 d1 d2 d3 HN HY
              clear hq
              have hal : Below wr.heap.size wr (wr.alloc (.cells q.cells.toArray 44)) := (Below.refl _ _).alloc (Nat.le_refl _) _
              have HB2 := Lib.hid (below_step hb.out hal)
              have HB72 := Lib.hid (hB7.out.later hal)
              clear hal hb hF hB7
              by_cases he : q.key = r.key
              · have heq : (q.key.toList == r.key.toList) = true := by rw [strbeq, he]; simp
                have HY2 := Lib.hid (HY.out he)
                clear HN HY he
                go_wp2_with fail
                refine ⟨?_, ?_⟩
                · exact ⟨i + 1, by omega, rfl, HY2, HB2, HB72⟩
                · (simp [intOf]) <;> omega
              · have hne := strne he
                have HN2 := Lib.hid (HN.out he)
                clear HN HY he
                go_wp2_with fail
                refine ⟨?_, ?_⟩
                · exact ⟨i + 1, by omega, rfl, HN2, HB2, HB72⟩
                · (simp [intOf]) <;> omega
            · obtain rfl : i = m.length := by omega
              go_wp2_with fail
              go_meet
              case rel => exact ⟨rfl, hF.out, hb, hB7⟩
        case rest =>
          obtain ⟨rfl, hF, hb, hB7⟩ := hcut
          generalize wc = wB at *
          have HD2 := Lib.hid (HD.out.later hb.out)
          have HB2 := Lib.hid (below_step HBEL.out hb.out)
          have HM7 : Hid (b7 < wB.heap.size) := hB7.out.lt
          have HB7 := hB7
          have HF := Lib.hid hF
          clear hb hB7 hF HD HBEL HS7
          obtain ⟨z8, hz8⟩ : ∃ z : Int, u8 = .int .i64 z := by
            rcases HF.out with ⟨e, -⟩ | ⟨j, -, e, -⟩
            · exact ⟨_, e⟩
            · exact ⟨_, e⟩
          subst hz8
          go_upto_if 57 with fail
          go_cut [4, 8, 38] from 38 to 127 (fun v4 v8 v38 wx => v38 = .int .i64 k ∧ ∃ (m1 : List It) (j : Nat) (x : It), v8 = .int .i64 (j : Int) ∧ Hid (Inv2 k m1 told j r.key x) ∧ Hid (Duo wx w4.heap.size v4 u5 m1 told) ∧ Hid (Below w4.heap.size w4 wx) ∧ Hid (Blk wx b7 r.cells) ∧ Hid (∀ g, v4.ownBlock = some g → g ≠ b7))
          case first =>
            rcases HF.out with ⟨e8, hall⟩ | ⟨j, hj, e8, hkey⟩
            · cases e8
              have c3 := HB7.out.at' 3 (by simp [Res.cells])
              have hl7 := HM7.out
              simp only [Res.cells, List.getElem_cons_succ, List.getElem_cons_zero] at c3
              have hI2 := hI.out.new (fun j hj => hall j hj hj)
              have hal : Below wB.heap.size wB (wB.alloc (.cells (newIt r.key).cells.toArray 44)) := (Below.refl _ _).alloc (Nat.le_refl _) _
              have HN3 : Hid (Blk (wB.alloc (.cells (newIt r.key).cells.toArray 44)) wB.heap.size (newIt r.key).cells) := Blk.new' rfl
              have HD3 := Lib.hid (HD2.out.later hal)
              have HB3 := Lib.hid (below_step HB2.out hal)
              have HB73 := Lib.hid (HB7.out.later hal)
              have HI2 := Lib.hid hI2
              clear hI2 hal hall HF
              go_wp2_with (refine stop_append rfl ?_)
              have hml : m.length ≤ 100 := by have := hI.out.mlen; have := HK.out; omega
              refine ⟨wpList_plain rfl fun _ hK => wp_app_at el26 (by rfl) (by rfl) HD3.out.o4 (by rfl) (m := 1) rfl HN3.out.cells (by simp [It.cells, Value.oneCell']) (by omega) (by simp [maxLen]; omega) (by omega) HB3.out.size ?_⟩
              intro g cap W5 hO5 hg5 hw5
              refine hK _ _ ?_
              clear hK
              have hO6 : Own W5 w4.heap.size 44 4 (.slice (some ⟨g, 0, none⟩) (m.length + 1) cap) (m ++ [newIt r.key]).length ((m ++ [newIt r.key]).flatMap It.cells) := by simpa using hO5
              have hD6 := HD3.out.app4 hO6 hg5 (fun g' e => by cases e; exact hw5)
              have h7 : ∀ g', (Value.slice (some ⟨g, 0, none⟩) (m.length + 1) cap).ownBlock = some g' → g' ≠ b7 := by
                intro g' e
                have e2 : g = g' := by simpa [Value.ownBlock] using e
                subst e2
                rcases hw5 with e | e
                · exact H4.out _ e
                · have := HM7.out; simp at e; omega
              have hB6 := HD3.out.o4.below hg5 HB3.out (Nat.le_refl _) HB3.out.size
              have hB76 := HB73.out.grown hg5 (fun e => H4.out _ e rfl)
              have HD6 := Lib.hid hD6; have H76 := Lib.hid h7; have HB6 := Lib.hid hB6; have HB76 := Lib.hid hB76
              clear hO5 hO6 hg5 hw5 hD6 h7 hB6 hB76 hml HD3 HB3 HB73 HN3 c3
              go_wp2_with fail
              go_meet
              case rel => exact ⟨rfl, m ++ [newIt r.key], m.length, newIt r.key, rfl, HI2, HD6, HB6, HB76, H76⟩
            · cases e8
              have hI2 := hI.out.old hj hkey
              have hjn : ¬ ((j : Int) < 0) := by omega
              have HI2 := Lib.hid hI2
              clear hI2 HF hkey
              go_wp2_with fail
              go_meet
              case rel => exact ⟨rfl, m, j, m[j], rfl, HI2, HD2, HB2, HB7, H4⟩
          case rest =>
            obtain ⟨rfl, m1, j, x, rfl, hI2, hD, hbel, hB7, h47⟩ := hcut
            generalize wc = wC at *
            obtain ⟨g, cap, rfl, hglt, hmc⟩ := hD.out.at4 hI2.out.get
            have HMC := Lib.hid hmc
            have hjl : j < m1.length := (List.getElem?_eq_some_iff.1 hI2.out.get).1
            have hjl2 : (j : Int) < (m1.length : Int) := by omega
            have MJ := Lib.hid hjl
            have HV : Hid (0 ≤ x.ver ∧ x.ver ≤ 100) := by
              have h1 := hI2.out.ver x (List.mem_of_getElem? hI2.out.get)
              have h2 := HK.out
              show _ ∧ _; omega
            clear hjl hmc hglt
            have c1 := hB7.out.at' 1 (by simp [Res.cells])
            have hl7 := hB7.out.lt
            simp only [Res.cells, List.getElem_cons_succ, List.getElem_cons_zero] at c1
            go_upto_if 68 with fail
            go_cut [38] from 38 to 127 (fun v38 wx => v38 = .int .i64 k ∧ Hid (Duo wx w4.heap.size (.slice (some ⟨g, 0, none⟩) m1.length cap) u5 (m1.set j (turn1 x r)) told) ∧ Hid (Below w4.heap.size w4 wx) ∧ Hid (Blk wx b7 r.cells))
            case first =>
              have MLEN : Hid (m1.length = m1.length) := rfl
              have MGET : Hid (m1[j]? = some x) := hI2.out.get
              by_cases hk1 : r.kind = 1
              · have HT : Hid (turn1 x r = ⟨r.key, r.val, x.ver + 1, false⟩) := by show _ = _; unfold turn1; rw [if_pos hk1]
                have rv : IntKind.i64.wrap (x.ver + 1) = x.ver + 1 := by
                  have := HV.out; rw [IntKind.wrap_i64]; omega
                clear c1
                go_wp2_with fail
                refine wp_region_plan none [14] [] (.take 0 (.take 1 (.take 2 (.take 3 (.take 4 (.take 5 (.take 6 (.take 7 (.take 8 (.take 9 (.take 10 (.take 11 (.take 12 (.take 13 (.tail [14]))))))))))))))) (by kernel_rfl) (by kernel_rfl) (fun _ _ dd _ _ h => by cases dd <;> exact h) ?_
                intro W0 hW0
                have hD0 : Duo W0 w4.heap.size (.slice (some ⟨g, 0, none⟩) m1.length cap) u5 m1 told := by rw [hW0]; exact hD.out.later (below_drew _)
                have hbW : Below w4.heap.size w4 W0 := by rw [hW0]; exact hbel.out.drew
                have hB70 : Blk W0 b7 r.cells := by rw [hW0]; exact hB7.out.drew
                have f3 := hB70.at' 3 (by simp [Res.cells]); have f4 := hB70.at' 4 (by simp [Res.cells])
                simp only [Res.cells, List.getElem_cons_succ, List.getElem_cons_zero] at f3 f4
                obtain ⟨g0, g1, g2, g3⟩ := hD0.o4.it MGET.out
                clear hW0
                (refine pl_take (d := 69) (v := ?_) rfl rfl rfl ?_ ?_; rotate_left; (focus ((intro w' hb0 hw'; go_simp) <;> with_reducible rfl)); simp only [Act.put, List.setIfInBounds_toArray, List.set_cons_zero, List.set_cons_succ])
                (refine pl_take (d := 70) (v := ?_) rfl rfl rfl ?_ ?_; rotate_left; (focus ((intro w' hb0 hw'; go_simp) <;> with_reducible rfl)); simp only [Act.put, List.setIfInBounds_toArray, List.set_cons_zero, List.set_cons_succ])
                (refine pl_take (d := 71) (v := ?_) rfl rfl rfl ?_ ?_; rotate_left; (focus ((intro w' hb0 hw'; go_simp) <;> with_reducible rfl)); simp only [Act.put, List.setIfInBounds_toArray, List.set_cons_zero, List.set_cons_succ])
                (refine pl_take (d := 72) (v := ?_) rfl rfl rfl ?_ ?_; rotate_left; (focus ((intro w' hb0 hw'; have c3 := cell_later f3 hw'; go_simp) <;> with_reducible rfl)); simp only [Act.put, List.setIfInBounds_toArray, List.set_cons_zero, List.set_cons_succ])
                (refine pl_take (d := 73) (v := ?_) rfl rfl rfl ?_ ?_; rotate_left; (focus ((intro w' hb0 hw'; go_simp) <;> with_reducible rfl)); simp only [Act.put, List.setIfInBounds_toArray, List.set_cons_zero, List.set_cons_succ])
                (refine pl_take (d := 74) (v := ?_) rfl rfl rfl ?_ ?_; rotate_left; (focus ((intro w' hb0 hw'; have c4 := cell_later f4 hw'; go_simp) <;> with_reducible rfl)); simp only [Act.put, List.setIfInBounds_toArray, List.set_cons_zero, List.set_cons_succ])
                (refine pl_take (d := 75) (v := ?_) rfl rfl rfl ?_ ?_; rotate_left; (focus ((intro w' hb0 hw'; go_simp) <;> with_reducible rfl)); simp only [Act.put, List.setIfInBounds_toArray, List.set_cons_zero, List.set_cons_succ])
                (refine pl_take (d := 76) (v := ?_) rfl rfl rfl ?_ ?_; rotate_left; (focus ((intro w' hb0 hw'; go_simp) <;> with_reducible rfl)); simp only [Act.put, List.setIfInBounds_toArray, List.set_cons_zero, List.set_cons_succ])
                (refine pl_take (d := 77) (v := ?_) rfl rfl rfl ?_ ?_; rotate_left; (focus ((intro w' hb0 hw'; go_simp) <;> with_reducible rfl)); simp only [Act.put, List.setIfInBounds_toArray, List.set_cons_zero, List.set_cons_succ])
                (refine pl_take (d := 78) (v := ?_) rfl rfl rfl ?_ ?_; rotate_left; (focus ((intro w' hb0 hw'; go_simp) <;> with_reducible rfl)); simp only [Act.put, List.setIfInBounds_toArray, List.set_cons_zero, List.set_cons_succ])
                (refine pl_take (d := 79) (v := ?_) rfl rfl rfl ?_ ?_; rotate_left; (focus ((intro w' hb0 hw'; have x2 := cell_later g2 hw'; go_simp) <;> with_reducible rfl)); simp only [Act.put, List.setIfInBounds_toArray, List.set_cons_zero, List.set_cons_succ])
                (refine pl_take (d := 80) (v := ?_) rfl rfl rfl ?_ ?_; rotate_left; (focus ((intro w' hb0 hw'; go_simp) <;> with_reducible rfl)); simp only [Act.put, List.setIfInBounds_toArray, List.set_cons_zero, List.set_cons_succ])
                (refine pl_take (d := 81) (v := ?_) rfl rfl rfl ?_ ?_; rotate_left; (focus ((intro w' hb0 hw'; go_simp) <;> with_reducible rfl)); simp only [Act.put, List.setIfInBounds_toArray, List.set_cons_zero, List.set_cons_succ])
                (refine pl_take (d := 82) (v := ?_) rfl rfl rfl ?_ ?_; rotate_left; (focus ((intro w' hb0 hw'; go_simp) <;> with_reducible rfl)); simp only [Act.put, List.setIfInBounds_toArray, List.set_cons_zero, List.set_cons_succ])
                refine pl_tail ?_
                refine tl_do rfl rfl (fun K hK => ?_)
                have hO0 := hD0.o4
                try rw [← MLEN.out] at hO0
                refine wp_store_own (o := j * 4) rfl hO0 (by rfl) (vs := (⟨r.key, r.val, x.ver + 1, false⟩ : It).cells) (by rfl) row44 (by rw [flat_length (k := 4) (fun _ => rfl)]; simp [It.cells]; have := MJ.out; omega) (by simp [It.cells, Value.oneCell']) ?_
                intro W5 hO5 hg5
                have hD5 := hD0.put MJ.out (by first | rfl | exact MLEN.out) hO5 hg5
                have hB5 := hD0.o4.below hg5 hbW (Nat.le_refl _) hbW.size
                have hB75 := hB70.grown hg5 (fun e => h47.out _ e rfl)
                have HD5 := Lib.hid hD5; have HB5 := Lib.hid hB5; have HB75 := Lib.hid hB75
                refine hK _ _ ?_
                clear hK hD5 hB5 hB75 hO5 hg5 hD0 hbW hB70 hO0
                (try simp only [Act.put, List.setIfInBounds_toArray, List.set_cons_zero, List.set_cons_succ])
                refine tl_end ?_
                go_wp2_with fail
                go_meet
                case rel => exact ⟨rfl, Lib.hid (by rw [HT.out]; exact HD5.out), HB5, HB75⟩
              · have HT : Hid (turn1 x r = x) := by show _ = _; unfold turn1; rw [if_neg hk1]
                have HD1 : Hid (Duo wC w4.heap.size (.slice (some ⟨g, 0, none⟩) m1.length cap) u5 (m1.set j (turn1 x r)) told) := by
                  show Duo _ _ _ _ _ _
                  have e := List.getElem?_eq_some_iff.1 MGET.out
                  obtain ⟨e1, e2⟩ := e
                  rw [HT.out, ← e2, List.set_getElem_self]
                  exact hD.out
                go_wp2_with fail
                go_meet
                case rel => exact ⟨rfl, HD1, hbel, hB7⟩
            case rest =>
              obtain ⟨rfl, hD, hbel, hB7⟩ := hcut
              generalize wc = wE at *
              have HNEXT0 := Lib.hid (Inv2.next hI2.out)
              obtain ⟨y1, hy1⟩ : ∃ y, turn1 x r = y := ⟨_, rfl⟩
              have HV1 : Hid (0 ≤ y1.ver ∧ y1.ver ≤ 101) := by
                have h1 := turn1_ver (r := r) (k := 100) HV.out
                rw [hy1] at h1; show _ ∧ _; omega
              rw [hy1] at hD HNEXT0
              clear hy1
              obtain ⟨y2, hy2⟩ : ∃ y, turn2 y1 r = y := ⟨_, rfl⟩
              rw [hy2] at HNEXT0
              have HY2 := Lib.hid hy2
              clear hy2 c1
              have c1 := hB7.out.at' 1 (by simp [Res.cells])
              have hl7 := hB7.out.lt
              simp only [Res.cells, List.getElem_cons_succ, List.getElem_cons_zero] at c1
              obtain ⟨ML, hML⟩ : ∃ L, m1.set j y1 = L := ⟨_, rfl⟩
              have MLEN : Hid (m1.length = ML.length) := by show _ = _; rw [← hML]; simp
              have MGET : Hid (ML[j]? = some y1) := by show _ = _; rw [← hML]; simp [MJ.out]
              have MSET : Hid (∀ y, ML.set j y = m1.set j y) := by intro y; rw [← hML, List.set_set]
              rw [hML] at hD
              clear hML
              go_upto_if 85 with fail
              go_cut [38] from 38 to 127 (fun v38 wx => v38 = .int .i64 k ∧ Hid (Duo wx w4.heap.size (.slice (some ⟨g, 0, none⟩) m1.length cap) u5 (m1.set j y2) told) ∧ Hid (Below w4.heap.size w4 wx) ∧ Hid (Blk wx b7 r.cells))
              case first =>
                by_cases hk1 : r.kind = 2
                · have HT : Hid (y2 = ⟨r.key, nos, y1.ver + 1, true⟩) := by show _ = _; rw [← HY2.out]; unfold turn2; rw [if_pos hk1]
                  have rv : IntKind.i64.wrap (y1.ver + 1) = y1.ver + 1 := by
                    have := HV1.out; rw [IntKind.wrap_i64]; omega
                  have MJ0 := MJ
                  replace MJ : Hid (j < ML.length) := by rw [← MLEN.out]; exact MJ.out
                  clear c1
                  go_wp2_with fail
                  refine wp_region_plan none [12] [] (.take 0 (.take 1 (.take 2 (.take 3 (.take 4 (.take 5 (.take 6 (.take 7 (.take 8 (.take 9 (.take 10 (.take 11 (.tail [12]))))))))))))) (by kernel_rfl) (by kernel_rfl) (fun _ _ dd _ _ h => by cases dd <;> exact h) ?_
                  intro W0 hW0
                  have hD0 : Duo W0 w4.heap.size (.slice (some ⟨g, 0, none⟩) m1.length cap) u5 ML told := by rw [hW0]; exact hD.out.later (below_drew _)
                  have hbW : Below w4.heap.size w4 W0 := by rw [hW0]; exact hbel.out.drew
                  have hB70 : Blk W0 b7 r.cells := by rw [hW0]; exact hB7.out.drew
                  have f3 := hB70.at' 3 (by simp [Res.cells]); have f4 := hB70.at' 4 (by simp [Res.cells])
                  simp only [Res.cells, List.getElem_cons_succ, List.getElem_cons_zero] at f3 f4
                  obtain ⟨g0, g1, g2, g3⟩ := hD0.o4.it MGET.out
                  clear hW0
                  (refine pl_take (d := 86) (v := ?_) rfl rfl rfl ?_ ?_; rotate_left; (focus ((intro w' hb0 hw'; go_simp) <;> with_reducible rfl)); simp only [Act.put, List.setIfInBounds_toArray, List.set_cons_zero, List.set_cons_succ])
                  (refine pl_take (d := 87) (v := ?_) rfl rfl rfl ?_ ?_; rotate_left; (focus ((intro w' hb0 hw'; go_simp) <;> with_reducible rfl)); simp only [Act.put, List.setIfInBounds_toArray, List.set_cons_zero, List.set_cons_succ])
                  (refine pl_take (d := 88) (v := ?_) rfl rfl rfl ?_ ?_; rotate_left; (focus ((intro w' hb0 hw'; go_simp) <;> with_reducible rfl)); simp only [Act.put, List.setIfInBounds_toArray, List.set_cons_zero, List.set_cons_succ])
                  (refine pl_take (d := 89) (v := ?_) rfl rfl rfl ?_ ?_; rotate_left; (focus ((intro w' hb0 hw'; have c3 := cell_later f3 hw'; go_simp) <;> with_reducible rfl)); simp only [Act.put, List.setIfInBounds_toArray, List.set_cons_zero, List.set_cons_succ])
                  (refine pl_take (d := 90) (v := ?_) rfl rfl rfl ?_ ?_; rotate_left; (focus ((intro w' hb0 hw'; go_simp) <;> with_reducible rfl)); simp only [Act.put, List.setIfInBounds_toArray, List.set_cons_zero, List.set_cons_succ])
                  (refine pl_take (d := 91) (v := ?_) rfl rfl rfl ?_ ?_; rotate_left; (focus ((intro w' hb0 hw'; go_simp) <;> with_reducible rfl)); simp only [Act.put, List.setIfInBounds_toArray, List.set_cons_zero, List.set_cons_succ])
                  (refine pl_take (d := 92) (v := ?_) rfl rfl rfl ?_ ?_; rotate_left; (focus ((intro w' hb0 hw'; go_simp) <;> with_reducible rfl)); simp only [Act.put, List.setIfInBounds_toArray, List.set_cons_zero, List.set_cons_succ])
                  (refine pl_take (d := 93) (v := ?_) rfl rfl rfl ?_ ?_; rotate_left; (focus ((intro w' hb0 hw'; go_simp) <;> with_reducible rfl)); simp only [Act.put, List.setIfInBounds_toArray, List.set_cons_zero, List.set_cons_succ])
                  (refine pl_take (d := 94) (v := ?_) rfl rfl rfl ?_ ?_; rotate_left; (focus ((intro w' hb0 hw'; have x2 := cell_later g2 hw'; go_simp) <;> with_reducible rfl)); simp only [Act.put, List.setIfInBounds_toArray, List.set_cons_zero, List.set_cons_succ])
                  (refine pl_take (d := 95) (v := ?_) rfl rfl rfl ?_ ?_; rotate_left; (focus ((intro w' hb0 hw'; go_simp) <;> with_reducible rfl)); simp only [Act.put, List.setIfInBounds_toArray, List.set_cons_zero, List.set_cons_succ])
                  (refine pl_take (d := 96) (v := ?_) rfl rfl rfl ?_ ?_; rotate_left; (focus ((intro w' hb0 hw'; go_simp) <;> with_reducible rfl)); simp only [Act.put, List.setIfInBounds_toArray, List.set_cons_zero, List.set_cons_succ])
                  (refine pl_take (d := 97) (v := ?_) rfl rfl rfl ?_ ?_; rotate_left; (focus ((intro w' hb0 hw'; go_simp) <;> with_reducible rfl)); simp only [Act.put, List.setIfInBounds_toArray, List.set_cons_zero, List.set_cons_succ])
                  refine pl_tail ?_
                  refine tl_do rfl rfl (fun K hK => ?_)
                  have hO0 := hD0.o4
                  try rw [← MLEN.out] at hO0
                  refine wp_store_own (o := j * 4) rfl hO0 (by rfl) (vs := (⟨r.key, nos, y1.ver + 1, true⟩ : It).cells) (by rfl) row44 (by rw [flat_length (k := 4) (fun _ => rfl)]; simp [It.cells]; have := MJ.out; omega) (by simp [It.cells, Value.oneCell']) ?_
                  intro W5 hO5 hg5
                  have hD5 := hD0.put MJ.out (by first | rfl | exact MLEN.out) hO5 hg5
                  have hB5 := hD0.o4.below hg5 hbW (Nat.le_refl _) hbW.size
                  have hB75 := hB70.grown hg5 (fun e => h47.out _ e rfl)
                  have HD5 := Lib.hid hD5; have HB5 := Lib.hid hB5; have HB75 := Lib.hid hB75
                  refine hK _ _ ?_
                  clear hK hD5 hB5 hB75 hO5 hg5 hD0 hbW hB70 hO0
                  (try simp only [Act.put, List.setIfInBounds_toArray, List.set_cons_zero, List.set_cons_succ])
                  refine tl_end ?_
                  go_wp2_with fail
                  go_meet
                  case rel => exact ⟨rfl, Lib.hid (by rw [← MSET.out, HT.out]; exact HD5.out), HB5, HB75⟩
                · have HT : Hid (y2 = y1) := by show _ = _; rw [← HY2.out]; unfold turn2; rw [if_neg hk1]
                  have HD1 : Hid (Duo wE w4.heap.size (.slice (some ⟨g, 0, none⟩) m1.length cap) u5 (m1.set j y2) told) := by
                    show Duo _ _ _ _ _ _
                    rw [← MSET.out]
                    have e := List.getElem?_eq_some_iff.1 MGET.out
                    obtain ⟨e1, e2⟩ := e
                    rw [HT.out, ← e2, List.set_getElem_self]
                    exact hD.out
                  go_wp2_with fail
                  go_meet
                  case rel => exact ⟨rfl, HD1, hbel, hB7⟩
              case rest =>
                obtain ⟨rfl, hD, hbel, hB7⟩ := hcut
                generalize wc = wG at *
                have hl7 := hB7.out.lt
                clear MLEN MGET MSET c1
                obtain ⟨ML, hML⟩ : ∃ L, m1.set j y2 = L := ⟨_, rfl⟩
                have MLEN : Hid (m1.length = ML.length) := by show _ = _; rw [← hML]; simp
                have MGET : Hid (ML[j]? = some y2) := by show _ = _; rw [← hML]; simp [MJ.out]
                have HNEXT : Hid (Inv (k + 1) (m1.set j y2) (told ++ [tell y2 r])) := by
                  have := HNEXT0.out
                  exact this
                rw [hML] at hD
                have HMLE := Lib.hid hML
                clear hML HNEXT0
                have HTL : Hid (told.length ≤ 101) := by have := hI2.out.len; have := HK.out; show _ ≤ _; omega
                go_wp2_with fail
                refine Plan2.wp_region_plan (.but u5.ownBlock) [] [] (.take 0 (.take 1 (.take 2 (.take 3 (.take 4 (.take 5 (.take 6 (.take 7 (.take 8 (.take 9 (.take 10 (.take 11 (.take 12 (.take 13 (.take 14 (.take 15 (.take 16 (.take 17 (.take 18 (.take 19 (.take 20 (.take 21 (.take 22 (.take 23 (.take 24 (.take 25 (.take 26 (.one 27 (.one 28 (.take 29 .done)))))))))))))))))))))))))))))) (by kernel_rfl) (by kernel_rfl) (fun _ _ dd _ _ h => by cases dd <;> exact h) ?_
                intro W0 hW0
                have hD0 : Duo W0 w4.heap.size (.slice (some ⟨g, 0, none⟩) m1.length cap) u5 ML told := by rw [hW0]; exact hD.out.later (below_drew _)
                have hbW : Below w4.heap.size w4 W0 := by rw [hW0]; exact hbel.out.drew
                have hB70 : Blk W0 b7 r.cells := by rw [hW0]; exact hB7.out.drew
                clear hW0
                (refine Plan2.pl_take (d := 98) (v := ?_) rfl rfl rfl ?_ ?_; rotate_left; (focus ((intro w' hb0 hw'; go_simp) <;> with_reducible rfl)); simp only [Act.put, List.setIfInBounds_toArray, List.set_cons_zero, List.set_cons_succ])
                (refine Plan2.pl_take (d := 99) (v := ?_) rfl rfl rfl ?_ ?_; rotate_left; (focus ((intro w' hb0 hw'; go_simp) <;> with_reducible rfl)); simp only [Act.put, List.setIfInBounds_toArray, List.set_cons_zero, List.set_cons_succ])
                (refine Plan2.pl_take (d := 100) (v := ?_) rfl rfl rfl ?_ ?_; rotate_left; (focus ((intro w' hb0 hw'; have hc := hB70.grown hb0 (fun e => H5.out _ e rfl); have c1 := hc.at' 1 (by simp [Res.cells]); have c3 := hc.at' 3 (by simp [Res.cells]); simp only [Res.cells, List.getElem_cons_succ, List.getElem_cons_zero] at c1 c3; go_simp) <;> with_reducible rfl)); simp only [Act.put, List.setIfInBounds_toArray, List.set_cons_zero, List.set_cons_succ])
                (refine Plan2.pl_take (d := 101) (v := ?_) rfl rfl rfl ?_ ?_; rotate_left; (focus ((intro w' hb0 hw'; go_simp) <;> with_reducible rfl)); simp only [Act.put, List.setIfInBounds_toArray, List.set_cons_zero, List.set_cons_succ])
                (refine Plan2.pl_take (d := 102) (v := ?_) rfl rfl rfl ?_ ?_; rotate_left; (focus ((intro w' hb0 hw'; have hc := hB70.grown hb0 (fun e => H5.out _ e rfl); have c1 := hc.at' 1 (by simp [Res.cells]); have c3 := hc.at' 3 (by simp [Res.cells]); simp only [Res.cells, List.getElem_cons_succ, List.getElem_cons_zero] at c1 c3; go_simp) <;> with_reducible rfl)); simp only [Act.put, List.setIfInBounds_toArray, List.set_cons_zero, List.set_cons_succ])
                (refine Plan2.pl_take (d := 103) (v := ?_) rfl rfl rfl ?_ ?_; rotate_left; (focus ((intro w' hb0 hw'; go_simp) <;> with_reducible rfl)); simp only [Act.put, List.setIfInBounds_toArray, List.set_cons_zero, List.set_cons_succ])
                (refine Plan2.pl_take (d := 104) (v := ?_) rfl rfl rfl ?_ ?_; rotate_left; (focus ((intro w' hb0 hw'; go_simp) <;> with_reducible rfl)); simp only [Act.put, List.setIfInBounds_toArray, List.set_cons_zero, List.set_cons_succ])
                (refine Plan2.pl_take (d := 105) (v := ?_) rfl rfl rfl ?_ ?_; rotate_left; (focus ((intro w' hb0 hw'; go_simp) <;> with_reducible rfl)); simp only [Act.put, List.setIfInBounds_toArray, List.set_cons_zero, List.set_cons_succ])
                (refine Plan2.pl_take (d := 106) (v := ?_) rfl rfl rfl ?_ ?_; rotate_left; (focus ((intro w' hb0 hw'; go_simp) <;> with_reducible rfl)); simp only [Act.put, List.setIfInBounds_toArray, List.set_cons_zero, List.set_cons_succ])
                (refine Plan2.pl_take (d := 107) (v := ?_) rfl rfl rfl ?_ ?_; rotate_left; (focus ((intro w' hb0 hw'; have ho := hD0.o4.grown' hb0 (fun b e e2 => hD0.two b e e2); obtain ⟨x0, x1, x2, x3⟩ := ho.it MGET.out; go_simp) <;> with_reducible rfl)); simp only [Act.put, List.setIfInBounds_toArray, List.set_cons_zero, List.set_cons_succ])
                (refine Plan2.pl_take (d := 108) (v := ?_) rfl rfl rfl ?_ ?_; rotate_left; (focus ((intro w' hb0 hw'; go_simp) <;> with_reducible rfl)); simp only [Act.put, List.setIfInBounds_toArray, List.set_cons_zero, List.set_cons_succ])
                (refine Plan2.pl_take (d := 109) (v := ?_) rfl rfl rfl ?_ ?_; rotate_left; (focus ((intro w' hb0 hw'; go_simp) <;> with_reducible rfl)); simp only [Act.put, List.setIfInBounds_toArray, List.set_cons_zero, List.set_cons_succ])
                (refine Plan2.pl_take (d := 110) (v := ?_) rfl rfl rfl ?_ ?_; rotate_left; (focus ((intro w' hb0 hw'; go_simp) <;> with_reducible rfl)); simp only [Act.put, List.setIfInBounds_toArray, List.set_cons_zero, List.set_cons_succ])
                (refine Plan2.pl_take (d := 111) (v := ?_) rfl rfl rfl ?_ ?_; rotate_left; (focus ((intro w' hb0 hw'; go_simp) <;> with_reducible rfl)); simp only [Act.put, List.setIfInBounds_toArray, List.set_cons_zero, List.set_cons_succ])
                (refine Plan2.pl_take (d := 112) (v := ?_) rfl rfl rfl ?_ ?_; rotate_left; (focus ((intro w' hb0 hw'; have ho := hD0.o4.grown' hb0 (fun b e e2 => hD0.two b e e2); obtain ⟨x0, x1, x2, x3⟩ := ho.it MGET.out; go_simp) <;> with_reducible rfl)); simp only [Act.put, List.setIfInBounds_toArray, List.set_cons_zero, List.set_cons_succ])
                (refine Plan2.pl_take (d := 113) (v := ?_) rfl rfl rfl ?_ ?_; rotate_left; (focus ((intro w' hb0 hw'; go_simp) <;> with_reducible rfl)); simp only [Act.put, List.setIfInBounds_toArray, List.set_cons_zero, List.set_cons_succ])
                (refine Plan2.pl_take (d := 114) (v := ?_) rfl rfl rfl ?_ ?_; rotate_left; (focus ((intro w' hb0 hw'; go_simp) <;> with_reducible rfl)); simp only [Act.put, List.setIfInBounds_toArray, List.set_cons_zero, List.set_cons_succ])
                (refine Plan2.pl_take (d := 115) (v := ?_) rfl rfl rfl ?_ ?_; rotate_left; (focus ((intro w' hb0 hw'; go_simp) <;> with_reducible rfl)); simp only [Act.put, List.setIfInBounds_toArray, List.set_cons_zero, List.set_cons_succ])
                (refine Plan2.pl_take (d := 116) (v := ?_) rfl rfl rfl ?_ ?_; rotate_left; (focus ((intro w' hb0 hw'; go_simp) <;> with_reducible rfl)); simp only [Act.put, List.setIfInBounds_toArray, List.set_cons_zero, List.set_cons_succ])
                (refine Plan2.pl_take (d := 117) (v := ?_) rfl rfl rfl ?_ ?_; rotate_left; (focus ((intro w' hb0 hw'; have ho := hD0.o4.grown' hb0 (fun b e e2 => hD0.two b e e2); obtain ⟨x0, x1, x2, x3⟩ := ho.it MGET.out; go_simp) <;> with_reducible rfl)); simp only [Act.put, List.setIfInBounds_toArray, List.set_cons_zero, List.set_cons_succ])
                (refine Plan2.pl_take (d := 118) (v := ?_) rfl rfl rfl ?_ ?_; rotate_left; (focus ((intro w' hb0 hw'; go_simp) <;> with_reducible rfl)); simp only [Act.put, List.setIfInBounds_toArray, List.set_cons_zero, List.set_cons_succ])
                (refine Plan2.pl_take (d := 119) (v := ?_) rfl rfl rfl ?_ ?_; rotate_left; (focus ((intro w' hb0 hw'; go_simp) <;> with_reducible rfl)); simp only [Act.put, List.setIfInBounds_toArray, List.set_cons_zero, List.set_cons_succ])
                (refine Plan2.pl_take (d := 120) (v := ?_) rfl rfl rfl ?_ ?_; rotate_left; (focus ((intro w' hb0 hw'; go_simp) <;> with_reducible rfl)); simp only [Act.put, List.setIfInBounds_toArray, List.set_cons_zero, List.set_cons_succ])
                (refine Plan2.pl_take (d := 121) (v := ?_) rfl rfl rfl ?_ ?_; rotate_left; (focus ((intro w' hb0 hw'; go_simp) <;> with_reducible rfl)); simp only [Act.put, List.setIfInBounds_toArray, List.set_cons_zero, List.set_cons_succ])
                (refine Plan2.pl_take (d := 122) (v := ?_) rfl rfl rfl ?_ ?_; rotate_left; (focus ((intro w' hb0 hw'; go_simp) <;> with_reducible rfl)); simp only [Act.put, List.setIfInBounds_toArray, List.set_cons_zero, List.set_cons_succ])
                (refine Plan2.pl_take (d := 123) (v := ?_) rfl rfl rfl ?_ ?_; rotate_left; (focus ((intro w' hb0 hw'; have ho := hD0.o4.grown' hb0 (fun b e e2 => hD0.two b e e2); obtain ⟨x0, x1, x2, x3⟩ := ho.it MGET.out; go_simp) <;> with_reducible rfl)); simp only [Act.put, List.setIfInBounds_toArray, List.set_cons_zero, List.set_cons_succ])
                (refine Plan2.pl_take (d := 124) (v := ?_) rfl rfl rfl ?_ ?_; rotate_left; (focus ((intro w' hb0 hw'; go_simp) <;> with_reducible rfl)); simp only [Act.put, List.setIfInBounds_toArray, List.set_cons_zero, List.set_cons_succ])
                refine Plan2.pl_one rfl rfl (fun K hK => ?_)
                go_simp
                have hal : Below W0.heap.size W0 (W0.alloc (.cells (tell y2 r).cells.toArray 36)) := (Below.refl _ _).alloc (Nat.le_refl _) _
                refine hK _ _ (Below.grown_any hal _ : W0.grownBy (W0.alloc (.cells (tell y2 r).cells.toArray 36)) _) ?_
                clear hK
                have hD2 := hD0.later hal
                have hN2 := Blk.new W0 (tell y2 r).cells 36
                have hb2 := below_step hbW hal
                refine Plan2.pl_one rfl rfl (fun K hK => ?_)
                have htl := HTL.out
                refine wp_app_at el22 (by rfl) (by rfl) hD2.o5 (by rfl) (m := 1) rfl hN2.cells (by simp [Res.cells, Value.oneCell']) (by omega) (by simp [maxLen]; omega) (by omega) hb2.size ?_
                intro g9 cap9 W5 hO5 hg5 hw5
                refine hK _ _ (hg5 : Plan2.Rel (.but _) _ _) ?_
                clear hK
                have hO6 : Own W5 w4.heap.size 36 8 (.slice (some ⟨g9, 0, none⟩) (told.length + 1) cap9) (told ++ [tell y2 r]).length ((told ++ [tell y2 r]).flatMap Res.cells) := by simpa using hO5
                have hD6 := hD2.app5 hO6 hg5 (fun g' e => by cases e; exact hw5)
                have hB6 := hD2.o5.below hg5 hb2 (Nat.le_refl _) hb2.size
                have HD6 := Lib.hid hD6; have HB6 := Lib.hid hB6
                clear hO5 hO6 hg5 hw5 hD6 hB6 hD2 hN2 hb2 htl hal hD0 hbW hB70
                (refine Plan2.pl_take (d := 5) (v := ?_) rfl rfl rfl ?_ ?_; rotate_left; (focus ((intro w' hb0 hw'; go_simp) <;> with_reducible rfl)); simp only [Act.put, List.setIfInBounds_toArray, List.set_cons_zero, List.set_cons_succ])
                refine Plan2.pl_end ?_
                go_wp2_with fail
                go_roundw
                case measure => (simp [intOf]) <;> omega
                case rel => exact ⟨k + 1, m1.set j y2, told ++ [tell y2 r], by omega, rfl, HNEXT, Lib.hid (by rw [HMLE.out]; exact HD6.out), HB6⟩
      · obtain rfl : k = l.length := by omega
        obtain ⟨o5, c5, rfl, hR5⟩ := Own.rws hD.out.o5 rfl
        have HR5 := Lib.hid hR5
        have HBW := Lib.hid (below_step HB.out hbel.out)
        have HJT := Lib.hid hI.out.judge
        have HMT := Lib.hid hI.out.map
        have HTL : Hid (told.length ≤ 100) := by have := hI.out.len; have := HL.out; show _ ≤ _; omega
        have HML : Hid (m.length ≤ 100) := by have := hI.out.mlen; have := HL.out; show _ ≤ _; omega
        have HD := hD
        clear hR5 hbel hD hI
        go_wp2_with fail
        refine (judge7 told wA o5 _ c5 HR5.out (by have := HTL.out; omega)).mono ?_
        rintro r w5 ⟨rfl, hb⟩
        rw [HJT.out]
        obtain ⟨o4, c4, rfl, hR4⟩ := Own.rws HD.out.o4 rfl
        have HR4 := Lib.hid (hR4.below hb)
        replace HR5 := Lib.hid (HR5.out.below hb)
        replace HBW := Lib.hid (below_step HBW.out hb)
        clear hb hR4 HD HJT
        go_wp2_with fail
        go_loopw [11, 133] (fun v u wr => ∃ i : Nat, i ≤ m.length ∧ u = .int .i64 i ∧ Hid (Own wr w5.heap.size 44 4 v (liveOf (m.take i)).length ((liveOf (m.take i)).flatMap It.cells)) ∧ Hid (Below w5.heap.size w5 wr)) (fun _ u _ => m.length - (intOf u).toNat)
        case atStart => exact ⟨0, by omega, rfl, Lib.hid (Own.nil _ _ _ _), Lib.hid (Below.refl _ _)⟩
        case round =>
          obtain ⟨i, hi, rfl, hO, hbel⟩ := hrel
          by_cases hil : i < m.length
          · have hi2 : (i : Int) < (m.length : Int) := by omega
            have ri : IntKind.i64.wrap ((i : Int) + 1) = ((i + 1 : Nat) : Int) := by
              have h1 := HML.out
              rw [IntKind.wrap_i64]; omega
            obtain ⟨b2, p2, rfl, hb2, d0, d1, d2, d3⟩ := (HR4.out.rows.below hbel.out).it hil
            have HT := Lib.hid (liveOf_succ m hil)
            have hlm : (liveOf (m.take i)).length ≤ 100 := by
              have h1 : (liveOf (m.take i)).length ≤ (m.take i).length := List.length_filter_le _ _
              have h2 := HML.out
              simp only [List.length_take] at h1
              omega
            obtain ⟨M, hM⟩ : ∃ M, liveOf (m.take i) = M := ⟨_, rfl⟩
            obtain ⟨q, hq⟩ : ∃ q, m[i] = q := ⟨_, rfl⟩
            rw [hq] at d0 d1 d2 d3 HT
            rw [hM] at hO HT hlm
            have HLEN := Lib.hid hlm
            clear hM hlm hq
            have hal : Below wr.heap.size wr (wr.alloc (.cells q.cells.toArray 44)) := (Below.refl _ _).alloc (Nat.le_refl _) _
            cases hg : q.gone
            · have HTG : Hid (liveOf (m.take (i + 1)) = M ++ [q]) := by show _ = _; rw [HT.out, hg]; simp
              obtain ⟨xk, xv, xn, xg⟩ := q
              simp only at hg d0 d1 d2 d3
              subst hg
              have hal2 := hal.alloc hal.size (.cells (It.cells ⟨xk, xv, xn, false⟩).toArray 44)
              have hO2 := hO.out.later hal2
              have hN2 : Blk ((wr.alloc (.cells (It.cells ⟨xk, xv, xn, false⟩).toArray 44)).alloc (.cells (It.cells ⟨xk, xv, xn, false⟩).toArray 44)) (wr.heap.size + 1) (It.cells ⟨xk, xv, xn, false⟩) := Blk.new' (by simp)
              have hb3 := below_step hbel.out hal2
              have HO2 := Lib.hid hO2; have HN2 := Lib.hid hN2; have HB2 := Lib.hid hb3
              clear hal hal2 hO2 hN2 hb3 hO hbel HT
              go_wp2_with (refine stop_append rfl ?_)
              have hlen := HLEN.out
              refine ⟨wpList_app el26 rfl (by rfl) (by rfl) HO2.out (by rfl) (m := 1) rfl HN2.out.cells (by simp [It.cells, Value.oneCell']) (by simp [maxLen]; omega) (by omega) HB2.out.size ?_⟩
              intro v3 W3 hO3 hg3
              have hb3 := HO2.out.below hg3 HB2.out (Nat.le_refl _) HB2.out.size
              have HO3 := Lib.hid hO3; have HB3 := Lib.hid hb3
              clear hO3 hg3 hb3 hlen HO2 HN2 HB2 d0 d1 d2 d3
              go_wp2_with fail
              refine ⟨?_, ?_⟩
              · refine ⟨i + 1, by omega, rfl, Lib.hid ?_, HB3⟩
                rw [HTG.out]
                simpa using HO3.out
              · (simp [intOf]) <;> omega
            · have HTG : Hid (liveOf (m.take (i + 1)) = M) := by show _ = _; rw [HT.out, hg]; simp
              obtain ⟨xk, xv, xn, xg⟩ := q
              simp only at hg d0 d1 d2 d3
              subst hg
              have hO2 := hO.out.later hal
              have hb3 := below_step hbel.out hal
              have HO3 := Lib.hid hO2; have HB3 := Lib.hid hb3
              clear hal hO2 hb3 hO hbel HT
              go_wp2_with fail
              refine ⟨?_, ?_⟩
              · refine ⟨i + 1, by omega, rfl, Lib.hid ?_, HB3⟩
                rw [HTG.out]
                exact HO3.out
              · (simp [intOf]) <;> omega
          · obtain rfl : i = m.length := by omega
            rw [List.take_length] at hO
            obtain ⟨o6, c6, rfl, hR6⟩ := Own.rws hO.out rfl
            have HR6 := Lib.hid hR6
            replace HBW := Lib.hid (below_step HBW.out hbel.out)
            replace HR5 := Lib.hid (HR5.out.below hbel.out)
            clear hR6 hO hbel
            go_wp2_with fail
            refine (map10 told wr o5 _ c5 HR5.out (by have := HTL.out; omega)).mono ?_
            rintro r w7 ⟨⟨o7, c7, rfl, h7⟩, hb⟩
            rw [HMT.out] at h7 ⊢
            have H7 := Lib.hid h7
            replace HR6 := Lib.hid (HR6.out.below hb)
            replace HBW := Lib.hid (below_step HBW.out hb)
            clear h7 hb
            go_wp2_with fail
            refine (items9 (liveOf m) (liveOf m) w7 o7 o6 _ _ c7 c6 H7.out HR6.out).mono ?_
            rintro r w8 ⟨rfl, hb⟩
            rw [decide_eq_true rfl]
            replace HBW := Lib.hid (below_step HBW.out hb)
            clear hb H7 HR6
            go_wp2
            refine bodyPost_ret (v := .bool true) (by simp [results, Try.results5, go_sem]) rfl ⟨rfl, HBW.out⟩
end Go.Proofs.Ytnfkjicoielpnaa
