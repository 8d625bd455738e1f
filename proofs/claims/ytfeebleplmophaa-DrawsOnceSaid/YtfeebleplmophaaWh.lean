/-
  Walks of the document's pool: whether a number was seen; one is laid.
-/
import Derived.Test.YtfeebleplmophaaWg
namespace Go.Proofs.Ytfeebleplmophaa
open Go.RowKit
set_option maxHeartbeats 1000000
set_option maxRecDepth 20000
set_option linter.unusedVariables false
set_option linter.unusedSimpArgs false

/-- the document's pool: what is laid, what is seen -/
structure Ref (w : World) (b : Nat) (ol oa : Option Nat) (S L : List Nat) : Prop where
  mem : ∃ vl va, Blk w b [vl, va] ∧ Que w vl ol L ∧ Que w va oa S
  lb : ol ≠ some b
  ab : oa ≠ some b
  la : ∀ g, ol = some g → oa ≠ some g
theorem Ref.lt {w : World} {b : Nat} {ol oa : Option Nat} {S L : List Nat} (h : Ref w b ol oa S L) : ∀ x ∈ foot b ol oa, x < w.heap.size := by
  obtain ⟨vl, va, hB, hl, ha⟩ := h.mem
  intro x hx
  rcases mem_foot.1 hx with rfl | e | e
  · exact hB.lt
  · exact hl.lt x e
  · exact ha.lt x e
theorem Ref.kept {F : List Nat} {w w' : World} {b : Nat} {ol oa : Option Nat} {S L : List Nat} (h : Ref w b ol oa S L) (hk : Kept F w w') (hn : ∀ x ∈ foot b ol oa, x ∉ F) : Ref w' b ol oa S L := by
  obtain ⟨vl, va, hB, hl, ha⟩ := h.mem
  exact ⟨⟨vl, va, hB.kept hk (hn b (mem_foot.2 (.inl rfl))), hl.kept hk (fun g e => hn g (mem_foot.2 (.inr (.inl e)))), ha.kept hk (fun m e => hn m (mem_foot.2 (.inr (.inr e))))⟩, h.lb, h.ab, h.la⟩
def RefTo (w : World) (b : Nat) (ol oa : Option Nat) (S L : List Nat) (w' : World) : Prop :=
  ∃ ol' oa', Ref w' b ol' oa' S L ∧ Kept (foot b ol oa) w w' ∧ New w ol ol' ∧ New w oa oa'
theorem RefTo.of_below {w w' : World} {b : Nat} {ol oa : Option Nat} {S L : List Nat} (h : Ref w b ol oa S L) (hb : Below w.heap.size w w') : RefTo w b ol oa S L w' :=
  ⟨ol, oa, h.kept (F := []) (Kept.of_below hb) (fun x _ hx => by cases hx), Kept.of_below hb, New.refl _ _, New.refl _ _⟩
theorem RefTo.after {w w1 w2 : World} {b : Nat} {ol oa ol1 oa1 : Option Nat} {S L : List Nat} (hk : Kept (foot b ol oa) w w1) (hg : New w ol ol1) (hm : New w oa oa1) (h : RefTo w1 b ol1 oa1 S L w2) : RefTo w b ol oa S L w2 := by
  obtain ⟨ol2, oa2, h1, h2, h3, h4⟩ := h
  exact ⟨ol2, oa2, h1, hk.trans h2 (foot_new hg hm), hg.trans h3 hk.size, hm.trans h4 hk.size⟩
/-- what is laid is another row -/
theorem Ref.setl {w w' : World} {b : Nat} {ol oa ol' : Option Nat} {S L L' : List Nat} {v' : Value} (h : Ref w b ol oa S L) (hk : Kept ol.toList w w') (hn : New w ol ol') (hq : Que w' v' ol' L') :
    RefTo w b ol oa S L' (w'.setCell ⟨b, 0, none⟩ v') := by
  obtain ⟨vl, va, hB, hl, ha⟩ := h.mem
  have hgb : ol' ≠ some b := by
    intro e
    rcases hn b e with e | e
    · exact h.lb e
    · have := hB.lt; omega
  have hgm : ∀ g, ol' = some g → oa ≠ some g := by
    intro g hg e
    rcases hn g hg with e2 | e2
    · exact h.la g e2 e
    · have := ha.lt g e; omega
  have hB' := hB.kept hk (fun hx => h.lb (by simpa using hx))
  have ha' := ha.kept hk (fun m hm hx => h.la m (by simpa using hx) hm)
  have hkS : Kept [b] w' (w'.setCell ⟨b, 0, none⟩ v') := Kept.set1 _ _ _ _
  refine ⟨ol', oa, ⟨⟨v', va, hB'.set 0 (by simp) _, hq.kept hkS (fun g hg hx => hgb (by rw [hg, List.mem_singleton.1 hx])), ha'.kept hkS (fun m hm hx => h.ab (by rw [hm, List.mem_singleton.1 hx]))⟩, hgb, h.ab, hgm⟩, ?_, hn, New.refl _ _⟩
  exact (hk.mono (fun x hx => mem_foot.2 (.inr (.inl (by simpa using hx))))).trans hkS (fun x hx => .inl (mem_foot.2 (.inl (List.mem_singleton.1 hx))))
/-- what is seen is another row -/
theorem Ref.seta {w w' : World} {b : Nat} {ol oa oa' : Option Nat} {S S' L : List Nat} {v' : Value} (h : Ref w b ol oa S L) (hk : Kept oa.toList w w') (hn : New w oa oa') (hq : Que w' v' oa' S') :
    RefTo w b ol oa S' L (w'.setCell ⟨b, 1, none⟩ v') := by
  obtain ⟨vl, va, hB, hl, ha⟩ := h.mem
  have hgb : oa' ≠ some b := by
    intro e
    rcases hn b e with e | e
    · exact h.ab e
    · have := hB.lt; omega
  have hgm : ∀ g, ol = some g → oa' ≠ some g := by
    intro g hg e
    rcases hn g e with e2 | e2
    · exact h.la g hg e2
    · have := hl.lt g hg; omega
  have hB' := hB.kept hk (fun hx => h.ab (by simpa using hx))
  have hl' := hl.kept hk (fun m hm hx => h.la m hm (by simpa using hx))
  have hkS : Kept [b] w' (w'.setCell ⟨b, 1, none⟩ v') := Kept.set1 _ _ _ _
  refine ⟨ol, oa', ⟨⟨vl, v', hB'.set 1 (by simp) _, hl'.kept hkS (fun g hg hx => h.lb (by rw [hg, List.mem_singleton.1 hx])), hq.kept hkS (fun m hm hx => hgb (by rw [hm, List.mem_singleton.1 hx]))⟩, h.lb, hgb, hgm⟩, ?_, New.refl _ _, hn⟩
  exact (hk.mono (fun x hx => mem_foot.2 (.inr (.inr (by simpa using hx))))).trans hkS (fun x hx => .inl (mem_foot.2 (.inl (List.mem_singleton.1 hx))))

theorem Cells.num {w : World} {oa : Option Addr} {l : List Nat} (h : Cells w oa (l.map UV)) {i : Nat} (hi : i < l.length) :
    ∃ b o, oa = some ⟨b, o, none⟩ ∧ b < w.heap.size ∧ w.cell? ⟨b, o + i, none⟩ = some (.int .u64 (l[i] : Nat)) := by
  obtain ⟨b, o, e, hlt, hc⟩ := h.at' (i := i) (by simpa using hi)
  exact ⟨b, o, e, hlt, by simpa [UV] using hc⟩

theorem refSeen15 (b : Nat) (ol oa : Option Nat) (S L : List Nat) (n : Nat) (w : World) (h : Ref w b ol oa S L) (hS : S.length ≤ 1000000) :
    Calls Try.prog 15 #[.pointer (some ⟨b, 0, none⟩), .int .u64 n] w fun e w' => e = .returned (.bool (decide (n ∈ S))) ∧ Below w.heap.size w w' := by
  obtain ⟨vl, va, hB, hl, ha⟩ := h.mem
  have hbl := hB.lt
  have c1 : w.cell? ⟨b, 1, none⟩ = some va := hB.at' 1 (by simp)
  obtain ⟨oa', c, rfl, h1, h2, hC, -⟩ := ha.cells
  have HC := Lib.hid hC
  clear hB hl ha h h1 h2 hC
  go_enter Try.func15, Try.ntmps15
  go_wp2
  go_loopw [5] (fun u wr => ∃ k : Nat, k ≤ S.length ∧ u = .int .i64 k ∧ Hid (∀ j (hj : j < S.length), j < k → S[j] ≠ n) ∧ Hid (wr = w)) (fun u _ => S.length - (intOf u).toNat)
  case atStart => exact ⟨0, by omega, rfl, Lib.hid (fun j _ h => by omega), Lib.hid rfl⟩
  case round =>
    obtain ⟨k, hk, rfl, hall, hw⟩ := hrel
    obtain rfl := hw.out
    by_cases hlt : k < S.length
    · have hk5 : (k : Int) < (S.length : Int) := by omega
      have rk : IntKind.i64.wrap ((k : Int) + 1) = ((k + 1 : Nat) : Int) := by rw [IntKind.wrap_i64]; omega
      obtain ⟨b1, o1, rfl, hb1, hc1⟩ := HC.out.num hlt
      by_cases he : S[k] = n
      · have HIN : Hid (n ∈ S) := by rw [← he]; exact List.getElem_mem hlt
        rw [he] at hc1
        clear he
        go_wp2
        refine bodyPost_ret (v := .bool true) (by simp [results, Try.results15, go_sem]) rfl ⟨by rw [decide_eq_true HIN.out], Below.refl _ _⟩
      · have HNE := Lib.hid he
        obtain ⟨x, hx⟩ : ∃ x, S[k] = x := ⟨_, rfl⟩
        rw [hx] at hc1 he
        have hne : ¬ (x : Int) = (n : Int) := by omega
        clear he hx
        go_wp2
        go_roundw
        case measure => (simp [intOf]) <;> omega
        case rel =>
          refine ⟨k + 1, by omega, rfl, Lib.hid (fun j hj h => ?_), Lib.hid trivial⟩
          by_cases e : j = k
          · subst e; exact HNE.out
          · exact hall.out j hj (by omega)
    · obtain rfl : k = S.length := by omega
      have HNI : Hid (¬ n ∈ S) := fun hm => by
        obtain ⟨j, hj, e⟩ := List.getElem_of_mem hm
        exact hall.out j hj hj e
      clear hall
      go_wp2
      refine bodyPost_ret (v := .bool false) (by simp [results, Try.results15, go_sem]) rfl ⟨by rw [decide_eq_false HNI.out], Below.refl _ _⟩

theorem refLay8 (b : Nat) (ol oa : Option Nat) (S L : List Nat) (n : Nat) (w : World) (h : Ref w b ol oa S L) (hS : S.length ≤ 100000) (hL : L.length ≤ 1000000) :
    Calls Try.prog 8 #[.pointer (some ⟨b, 0, none⟩), .int .u64 n] w fun e w' => e = .returned (.int .i64 (layC S n)) ∧ RefTo w b ol oa (layS S n) (layL S L n) w' := by
  by_cases h0 : n = 0
  · subst h0
    have H := Lib.hid h
    clear h
    go_enter Try.func8, Try.ntmps8
    go_wp2
    refine bodyPost_ret (v := .int .i64 2) (by simp [results, Try.results8, go_sem]) rfl ⟨rfl, RefTo.of_below H.out (Below.refl _ _)⟩
  · have h0' : ¬ (n : Int) = 0 := by omega
    have HS := refSeen15 b ol oa S L n w h (by omega)
    have H := Lib.hid h
    by_cases hin : n ∈ S
    · rw [decide_eq_true hin] at HS
      have HIN := Lib.hid hin; have H0 := Lib.hid h0
      clear h h0 hin
      go_enter Try.func8, Try.ntmps8
      go_wp2_with fail
      refine HS.mono ?_
      rintro r w1 ⟨rfl, hb⟩
      have HB := Lib.hid hb
      clear hb HS
      go_wp2
      refine bodyPost_ret (v := .int .i64 35) (by simp [results, Try.results8, go_sem]) rfl ⟨by rw [layC, if_neg H0.out, if_pos HIN.out], ?_⟩
      rw [layS, layL, if_neg H0.out, if_neg H0.out, if_pos HIN.out, if_pos HIN.out]
      exact RefTo.of_below H.out HB.out
    · rw [decide_eq_false hin] at HS
      have HIN := Lib.hid hin; have H0 := Lib.hid h0
      clear h h0 hin
      go_enter Try.func8, Try.ntmps8
      go_wp2_with fail
      refine HS.mono ?_
      rintro r w1 ⟨rfl, hb⟩
      have HB := Lib.hid hb
      have H1 := Lib.hid (H.out.kept (F := []) (Kept.of_below hb) (fun x _ hx => by cases hx))
      clear hb HS
      obtain ⟨vl, va, hB, hl, ha⟩ := H1.out.mem
      have hbl := hB.lt
      have c1 : w1.cell? ⟨b, 1, none⟩ = some va := hB.at' 1 (by simp)
      have HQ := Lib.hid ha; have HBB := Lib.hid hB
      clear hB hl ha
      go_wp2_with (refine stop_append rfl ?_)
      refine ⟨wpList_que rfl _ _ rfl (by rfl) (HQ.out.kept (Kept.alloc _) (fun _ _ hx => by cases hx)) (by omega) (by rfl) (Cells.new (cs := [UV n])) ?_⟩
      intro v' w4 og' hq4 hk4 hn4
      obtain ⟨oa4, c4, rfl, -⟩ := hq4.cells
      have hll : (S ++ [n]).length = S.length + 1 := by simp
      rw [hll] at hq4 ⊢
      clear hll
      have hk4' := hk4.alloc_then
      have hbl4 := HBB.out.kept hk4' (fun hx => H1.out.ab (by simpa using hx))
      have hbl5 := hbl4.lt
      have c1' : w4.cell? ⟨b, 1, none⟩ = some va := hbl4.at' 1 (by simp)
      have c0' : w4.cell? ⟨b, 0, none⟩ = some vl := hbl4.at' 0 (by simp)
      have cz := hbl4.froz
      obtain ⟨ol5, oa5, hp5, hk5, hg5, hm5⟩ := H1.out.seta hk4' hn4.alloc hq4
      obtain ⟨vl5, va5, hB5, hl5, ha5⟩ := hp5.mem
      have hvl : vl = vl5 := by
        have e1 := hB5.at' 0 (by simp)
        rw [World.cell?_setCell_other _ _ _ _ (by simp), c0'] at e1
        simpa using e1
      subst hvl
      have HP5 := Lib.hid hp5; have HL5 := Lib.hid hl5; have HT := Lib.hid (And.intro hk5 (And.intro hg5 hm5))
      have HB5 := Lib.hid hB5
      clear hq4 hk4 hn4 hk4' hbl4 c1 hp5 hk5 hg5 hm5 hB5 hl5 ha5
      have hcn : Cells ((w4.setCell ⟨b, 1, none⟩ (.slice oa4 (S.length + 1) c4)).alloc (.cells [UV n].toArray 30)) (some ⟨w4.heap.size, 0, none⟩) [UV n] := by
        have hsz : (w4.setCell ⟨b, 1, none⟩ (.slice oa4 (S.length + 1) c4)).heap.size = w4.heap.size := by simp [World.setCell]
        have h9 := Cells.new (w := w4.setCell ⟨b, 1, none⟩ (.slice oa4 (S.length + 1) c4)) (cs := [UV n]) (e := 30) (fr := (0, 0))
        rwa [hsz] at h9
      have HCN := Lib.hid hcn
      clear hcn
      go_wp2_with (refine stop_append rfl ?_)
      refine ⟨wpList_que rfl _ _ rfl (by rfl) (HL5.out.kept (Kept.alloc _) (fun _ _ hx => by cases hx)) hL (by rfl) HCN.out ?_⟩
      intro v' w6 og' hq6 hk6 hn6
      obtain ⟨oa6, c6, rfl, -⟩ := hq6.cells
      have hll : (L ++ [n]).length = L.length + 1 := by simp
      rw [hll] at hq6 ⊢
      clear hll
      have hk6' := hk6.alloc_then
      have hbl6 := HB5.out.kept hk6' (fun hx => HP5.out.lb (by simpa using hx))
      have hbl7 := hbl6.lt
      have c0'' : w6.cell? ⟨b, 0, none⟩ = some vl := hbl6.at' 0 (by simp)
      have cz' := hbl6.froz
      have HT2 := Lib.hid (RefTo.after HT.out.1 HT.out.2.1 HT.out.2.2 (HP5.out.setl hk6' hn6.alloc hq6))
      clear hq6 hk6 hn6 hk6' hbl6 c1' c0' cz
      go_wp2
      refine bodyPost_ret (v := .int .i64 0) (by simp [results, Try.results8, go_sem]) rfl ⟨by rw [layC, if_neg H0.out, if_neg HIN.out], ?_⟩
      rw [layS, layL, if_neg H0.out, if_neg H0.out, if_neg HIN.out, if_neg HIN.out]
      exact RefTo.after (Kept.of_below HB.out) (New.refl _ _) (New.refl _ _) HT2.out
end Go.Proofs.Ytfeebleplmophaa
