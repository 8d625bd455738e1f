/-
  Walks: a number is laid; one is drawn.
-/
import Derived.Test.YtfeebleplmophaaWd
namespace Go.Proofs.Ytfeebleplmophaa
open Go.RowKit
set_option maxHeartbeats 1000000
set_option maxRecDepth 20000
set_option linter.unusedVariables false
set_option linter.unusedSimpArgs false

theorem PoolTo.of_below {w w' : World} {b : Nat} {og om : Option Nat} {S L : List Nat} {nx : Nat} (h : Pool w b og om S L nx) (hb : Below w.heap.size w w') : PoolTo w b og om S L nx w' :=
  ⟨og, om, h.kept (F := []) (Kept.of_below hb) (fun x _ hx => by cases hx), Kept.of_below hb, New.refl _ _, New.refl _ _⟩
theorem PoolTo.after {w w1 w2 : World} {b : Nat} {og om og1 om1 : Option Nat} {S L : List Nat} {nx : Nat} (hk : Kept (foot b og om) w w1) (hg : New w og og1) (hm : New w om om1) (h : PoolTo w1 b og1 om1 S L nx w2) : PoolTo w b og om S L nx w2 := by
  obtain ⟨og2, om2, h1, h2, h3, h4⟩ := h
  exact ⟨og2, om2, h1, hk.trans h2 (foot_new hg hm), hg.trans h3 hk.size, hm.trans h4 hk.size⟩
theorem PoolTo.below {w0 w w' : World} {B b : Nat} {og om : Option Nat} {S L : List Nat} {nx : Nat} (h : PoolTo w b og om S L nx w') (hb : Below B w0 w) (hB : B ≤ w.heap.size) (hf : ∀ x ∈ foot b og om, B ≤ x) :
    ∃ og' om', Pool w' b og' om' S L nx ∧ Below B w0 w' ∧ (∀ x ∈ foot b og' om', B ≤ x) ∧ Kept (foot b og om) w w' ∧ New w og og' ∧ New w om om' := by
  obtain ⟨og', om', h1, h2, h3, h4⟩ := h
  refine ⟨og', om', h1, h2.below hb hB hf, fun x hx => ?_, h2, h3, h4⟩
  rcases foot_new h3 h4 x hx with e | e
  · exact hf x e
  · omega
/-- the row of a pool is another one -/
theorem Pool.setq {w w' : World} {b : Nat} {og om og' : Option Nat} {S L L' : List Nat} {nx : Nat} {v' : Value} (h : Pool w b og om S L nx) (hk : Kept og.toList w w') (hn : New w og og') (hq : Que w' v' og' L') :
    PoolTo w b og om S L' nx (w'.setCell ⟨b, 3, none⟩ v') := by
  obtain ⟨d, v, s, hB, hq0, hs, hd⟩ := h.mem
  have hgb : og' ≠ some b := by
    intro e
    rcases hn b e with e | e
    · exact h.gb e
    · have := hB.lt; omega
  have hgm : ∀ g, og' = some g → om ≠ some g := by
    intro g hg e
    rcases hn g hg with e2 | e2
    · exact h.gm g e2 e
    · have := hs.lt g e; omega
  have hB' : Blk w' b [.int .u32 d, .int .i32 0, .int .u32 0, v, s, UV nx] := hB.kept hk (fun hx => h.gb (by simpa using hx))
  have hs' : SetIs w' s om S := hs.kept hk (fun m hm hx => h.gm m (by simpa using hx) hm)
  have hkS : Kept [b] w' (w'.setCell ⟨b, 3, none⟩ v') := Kept.set1 _ _ _ _
  refine ⟨og', om, ⟨⟨d, v', s, hB'.set 3 (by simp) _, hq.kept hkS (fun g hg hx => hgb (by rw [hg, List.mem_singleton.1 hx])), hs'.kept hkS (fun m hm hx => h.mb (by rw [hm, List.mem_singleton.1 hx])), hd⟩, hgb, h.mb, hgm⟩, ?_, hn, New.refl _ _⟩
  refine (hk.mono (fun x hx => mem_foot.2 (.inr (.inl (by simpa using hx))))).trans hkS (fun x hx => .inl (mem_foot.2 (.inl (List.mem_singleton.1 hx))))
theorem Kept.alloc_then {w w' : World} {F : List Nat} {o : Obj} (h : Kept F (w.alloc o) w') : Kept F w w' := ((Kept.alloc o).mono (fun x hx => by cases hx)).trans h (fun x hx => .inl hx)
theorem New.alloc {w : World} {a b : Option Nat} {o : Obj} (h : New (w.alloc o) a b) : New w a b := fun k hk => by
  rcases h k hk with e | e
  · exact .inl e
  · simp at e; exact .inr (by omega)

/-- what laying a number tells, and leaves -/
def layC (S : List Nat) (n : Nat) : Int := if n = 0 then 2 else if n ∈ S then 35 else 0
def layS (S : List Nat) (n : Nat) : List Nat := if n = 0 then S else if n ∈ S then S else S ++ [n]
def layL (S L : List Nat) (n : Nat) : List Nat := if n = 0 then L else if n ∈ S then L else L ++ [n]

theorem lay7 (b : Nat) (og om : Option Nat) (S L : List Nat) (nx n : Nat) (w : World) (h : Pool w b og om S L nx) (hn : n < 18446744073709551616) (hS : S.length ≤ 1000000) (hL : L.length ≤ 1000000) :
    Calls Try.prog 7 #[.pointer (some ⟨b, 0, none⟩), .int .u64 n] w fun e w' => e = .returned (.int .i64 (layC S n)) ∧ PoolTo w b og om (layS S n) (layL S L n) nx w' := by
  by_cases h0 : n = 0
  · subst h0
    have H := Lib.hid h
    clear h
    go_enter Try.func7, Try.ntmps7
    go_wp2
    refine bodyPost_ret (v := .int .i64 2) (by simp [results, Try.results7, go_sem]) rfl ⟨rfl, PoolTo.of_below H.out (Below.refl _ _)⟩
  · have h0' : ¬ (n : Int) = 0 := by omega
    have HS := seen14 b og om S L nx n w h hn
    have H := Lib.hid h
    by_cases hin : n ∈ S
    · rw [decide_eq_true hin] at HS
      have HIN := Lib.hid hin; have H0 := Lib.hid h0
      clear h h0 hin
      go_enter Try.func7, Try.ntmps7
      go_wp2_with fail
      refine HS.mono ?_
      rintro r w1 ⟨rfl, hb⟩
      have HB := Lib.hid hb
      clear hb HS
      go_wp2
      refine bodyPost_ret (v := .int .i64 35) (by simp [results, Try.results7, go_sem]) rfl ⟨by rw [layC, if_neg H0.out, if_pos HIN.out], ?_⟩
      rw [layS, layL, if_neg H0.out, if_neg H0.out, if_pos HIN.out, if_pos HIN.out]
      exact PoolTo.of_below H.out HB.out
    · rw [decide_eq_false hin] at HS
      have HIN := Lib.hid hin; have H0 := Lib.hid h0
      clear h h0 hin
      go_enter Try.func7, Try.ntmps7
      go_wp2_with fail
      refine HS.mono ?_
      rintro r w1 ⟨rfl, hb⟩
      have HB := Lib.hid hb
      have H1 := Lib.hid (H.out.kept (F := []) (Kept.of_below hb) (fun x _ hx => by cases hx))
      clear hb HS
      go_wp2_with fail
      refine (mark16 b og om S L nx n w1 H1.out hn hS).mono ?_
      rintro r w2 ⟨rfl, og2, om2, hp, hk, hg, hm⟩
      obtain ⟨d, v, s, hB, hq, hs, hd⟩ := hp.mem
      have hbl := hB.lt
      have c3 : w2.cell? ⟨b, 3, none⟩ = some v := hB.at' 3 (by simp)
      have HP2 := Lib.hid hp; have HQ := Lib.hid hq; have HBB := Lib.hid hB
      have HT := Lib.hid (And.intro hk (And.intro hg hm))
      clear hp hk hg hm hB hq hs hd
      go_wp2_with (refine stop_append rfl ?_)
      refine ⟨wpList_que rfl _ _ rfl (by rfl) (HQ.out.kept (Kept.alloc _) (fun _ _ hx => by cases hx)) hL (by rfl) (Cells.new (cs := [UV n])) ?_⟩
      intro v' w4 og' hq4 hk4 hn4
      obtain ⟨oa4, c4, rfl, -⟩ := hq4.cells
      have hll : (L ++ [n]).length = L.length + 1 := by simp
      rw [hll] at hq4 ⊢
      clear hll
      have hk4' := hk4.alloc_then
      have hbl4 := HBB.out.kept hk4' (fun hx => HP2.out.gb (by simpa using hx))
      have hbl5 := hbl4.lt
      have c3' : w4.cell? ⟨b, 3, none⟩ = some v := hbl4.at' 3 (by simp)
      have cz := hbl4.froz
      have HT2 := Lib.hid (PoolTo.after (HT.out.1) HT.out.2.1 HT.out.2.2 (HP2.out.setq hk4' hn4.alloc hq4))
      clear hq4 hk4 hn4 hk4' hbl4 c3
      go_wp2
      refine bodyPost_ret (v := .int .i64 0) (by simp [results, Try.results7, go_sem]) rfl ⟨by rw [layC, if_neg H0.out, if_neg HIN.out], ?_⟩
      rw [layS, layL, if_neg H0.out, if_neg H0.out, if_neg HIN.out, if_neg HIN.out]
      exact PoolTo.after (Kept.of_below HB.out) (New.refl _ _) (New.refl _ _) HT2.out
theorem lay_nil (v : Value) (w : World) : Calls Try.prog 7 #[.pointer none, v] w fun e w' => e = .returned (.int .i64 1) ∧ Below w.heap.size w w' := by
  go_enter Try.func7, Try.ntmps7
  go_wp2
  refine bodyPost_ret (v := .int .i64 1) (by simp [results, Try.results7, go_sem]) rfl ⟨rfl, Below.refl _ _⟩
end Go.Proofs.Ytfeebleplmophaa
