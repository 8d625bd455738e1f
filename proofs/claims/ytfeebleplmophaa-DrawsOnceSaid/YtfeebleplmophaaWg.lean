/-
  Walks: numbers are drawn, as many as there have to be.
-/
import Derived.Test.YtfeebleplmophaaWf
namespace Go.Proofs.Ytfeebleplmophaa
open Go.RowKit
set_option maxHeartbeats 1000000
set_option maxRecDepth 20000
set_option linter.unusedVariables false
set_option linter.unusedSimpArgs false

structure St where
  S : List Nat
  L : List Nat
  nx : Nat
def St.nextX (s : St) : Nat := match s.L with
  | x :: _ => x
  | [] => fresh s.S s.nx
def St.next (s : St) : St := match s.L with
  | _ :: r => ⟨s.S, r, s.nx⟩
  | [] => ⟨s.S ++ [fresh s.S s.nx], [], fresh s.S s.nx⟩
def St.runs (s : St) : Nat → St
  | 0 => s
  | k + 1 => (s.runs k).next
def St.outs (s : St) (k : Nat) : List Nat := (List.range k).map fun i => (s.runs i).nextX
theorem St.outs_succ (s : St) (k : Nat) : s.outs (k + 1) = s.outs k ++ [(s.runs k).nextX] := by simp [St.outs, List.range_succ]
theorem St.outs_len (s : St) (k : Nat) : (s.outs k).length = k := by simp [St.outs]
/-- what is so of a pool that began with nothing -/
structure Inv (s : St) : Prop where
  ge : 9223372036854775808 ≤ s.nx
  all : ∀ k, 9223372036854775808 ≤ k → k < s.nx → k ∈ s.S
  sub : ∀ x ∈ s.L, x ∈ s.S
  u64 : ∀ x ∈ s.S, x < 18446744073709551616
  nz : ∀ x ∈ s.S, x ≠ 0
theorem Inv.nx_le {s : St} (h : Inv s) : s.nx ≤ 9223372036854775808 + s.S.length := by
  have := row_le 9223372036854775808 (s.nx - 9223372036854775808) s.S (fun k hk hk2 => h.all k hk (by have := h.ge; omega))
  have := h.ge
  omega
theorem Inv.next {s : St} (h : Inv s) (hS : s.S.length ≤ 1000000) : Inv s.next := by
  obtain ⟨S, L, nx⟩ := s
  have hn := h.nx_le
  obtain ⟨h1, h2, h3, h4, h5⟩ := h
  simp only at hS h1 h2 h3 h4 h5 hn
  cases L with
  | cons x r => exact ⟨h1, h2, fun y hy => h3 y (List.mem_cons_of_mem _ hy), h4, h5⟩
  | nil =>
    have hf := fresh_is S nx
    have hl := fresh_le S nx
    refine ⟨Nat.le_trans h1 hf.le, fun k hk hk2 => ?_, fun y hy => (by cases hy), fun y hy => ?_, fun y hy => ?_⟩
    · show k ∈ S ++ [fresh S nx]
      by_cases e : k < nx
      · exact List.mem_append_left _ (h2 k hk e)
      · exact List.mem_append_left _ (hf.all k (by omega) hk2)
    · rcases List.mem_append.1 hy with e | e
      · exact h4 y e
      · rw [List.mem_singleton.1 e]; show fresh S nx < _; omega
    · rcases List.mem_append.1 hy with e | e
      · exact h5 y e
      · rw [List.mem_singleton.1 e]; have := hf.le; show fresh S nx ≠ 0; omega
theorem St.next_len (s : St) : s.next.S.length ≤ s.S.length + 1 ∧ s.next.L.length ≤ s.L.length := by
  obtain ⟨S, L, nx⟩ := s
  cases L with
  | cons x r => exact ⟨by simp [St.next], by simp [St.next]⟩
  | nil => exact ⟨by simp [St.next], by simp [St.next]⟩
theorem St.runs_len (s : St) : ∀ k, (s.runs k).S.length ≤ s.S.length + k ∧ (s.runs k).L.length ≤ s.L.length
  | 0 => ⟨Nat.le_refl _, Nat.le_refl _⟩
  | k + 1 => by
    have h1 := s.runs_len k; have h2 := (s.runs k).next_len
    exact ⟨by simp only [St.runs]; omega, by simp only [St.runs]; omega⟩
theorem Inv.runs {s : St} (h : Inv s) : ∀ k, s.S.length + k ≤ 1000000 → Inv (s.runs k)
  | 0, _ => h
  | k + 1, hk => (h.runs k (by omega)).next (by have := (s.runs_len k).1; omega)
theorem Inv.nextX_lt {s : St} (h : Inv s) (hS : s.S.length ≤ 1000000) : s.nextX < 18446744073709551616 := by
  obtain ⟨S, L, nx⟩ := s
  have hn := h.nx_le
  cases L with
  | cons x r => exact h.u64 x (h.sub x (by simp))
  | nil =>
    have := fresh_le S nx
    show fresh S nx < _
    simp only at hn hS; omega

theorem next9 (b : Nat) (og om : Option Nat) (s : St) (w : World) (h : Pool w b og om s.S s.L s.nx) (hi : Inv s) (hS : s.S.length ≤ 1000000) :
    Calls Try.prog 9 #[.pointer (some ⟨b, 0, none⟩)] w fun e w' => e = .returned (.int .u64 s.nextX) ∧ PoolTo w b og om s.next.S s.next.L s.next.nx w' := by
  have hn := hi.nx_le
  obtain ⟨S, L, nx⟩ := s
  cases L with
  | cons x r => exact next_laid b og om S r nx x w h
  | nil => exact next_fresh b og om S nx w h hS (by simp only at hn hS; omega)

theorem eq_nil27 (w : World) (a : Option Addr) (n c : Nat) : (binOp .eql 27 (.slice a n c) (.slice none 0 0)).run Try.prog w = .ok (.bool a.isNone) w := by
  have h : Try.prog.underlying 27 = some (.slice 30) := by kernel_rfl
  first | exact Lib.run_eql_slice_nil w 27 30 a n c 0 0 h | exact Go.run_eql_slice_nil w 27 30 a n c h
theorem clone17 (l : List Nat) (w : World) (oa : Option Addr) (c : Nat) (hc : Cells w oa (l.map UV)) (ha : oa ≠ none) (hl : l.length ≤ 1000000) :
    Calls Try.prog 17 #[.slice oa l.length c] w fun e w' => ∃ v og, e = .returned v ∧ Que w' v og l ∧ Below w.heap.size w w' ∧ ∀ g, og = some g → w.heap.size ≤ g := by
  cases oa with
  | none => exact absurd rfl ha
  | some ad =>
  have HC := Lib.hid hc; clear hc
  have q := fun W => eq_nil27 W (some ad) l.length c
  simp only [Option.isNone_some] at q
  go_enter Try.func17, Try.ntmps17
  go_wp2_with (refine stop_append rfl ?_)
  have h0 := Own.lit w [] 30 1 0 (by simp [maxLen]) rfl w.heap.size (Nat.le_refl _)
  refine ⟨wpList_app el27 rfl rfl (by rfl) h0 (by rfl) (m := l.length) (by simp) (HC.out.alloc _) UV_one (by simp [maxLen]; omega) (by omega) (by simp) ?_⟩
  intro v w1 hown hg
  have hb1 : Below w.heap.size w w1 := h0.below hg ((Below.refl _ _).alloc (Nat.le_refl _) _) (Nat.le_refl _) (by simp)
  rw [List.nil_append] at hown
  obtain ⟨og, hq, hge⟩ := Que.own hown
  have HQ := Lib.hid (And.intro hq (And.intro hb1 hge))
  clear hown h0 hb1 hq hge hg
  go_wp2
  refine bodyPost_ret (v := v) (by simp [results, Try.results17, go_sem]) rfl ⟨v, og, rfl, HQ.out.1, HQ.out.2.1, HQ.out.2.2⟩

theorem clone_nil (w : World) : Calls Try.prog 17 #[.slice none 0 0] w fun e w' => e = .returned (.slice none 0 0) ∧ Below w.heap.size w w' := by
  have q := fun W => eq_nil27 W none 0 0
  simp only [Option.isNone_none] at q
  go_enter Try.func17, Try.ntmps17
  go_wp2
  refine bodyPost_ret (v := .slice none 0 0) (by simp [results, Try.results17, go_sem]) rfl ⟨rfl, Below.refl _ _⟩

def FillOut (w : World) (b : Nat) (og om : Option Nat) (s : St) (l : List Nat) (c : Nat) (e : Ending) (w' : World) : Prop :=
  ∃ oa cp, e = .returned (.slice oa (l ++ s.outs c).length cp) ∧ Cells w' oa ((l ++ s.outs c).map UV) ∧ (∀ a, oa = some a → w.heap.size ≤ a.block) ∧
    ∃ og' om', Pool w' b og' om' (s.runs c).S (s.runs c).L (s.runs c).nx ∧ Kept (foot b og om) w w' ∧ New w og og' ∧ New w om om' ∧ ∀ a, oa = some a → a.block ∉ foot b og' om'
structure FillSt (w : World) (b : Nat) (og om : Option Nat) (s : St) (l : List Nat) (k : Nat) (v : Value) (o7 og' om' : Option Nat) (wr : World) : Prop where
  que : Que wr v o7 (l ++ s.outs k)
  pool : Pool wr b og' om' (s.runs k).S (s.runs k).L (s.runs k).nx
  kept : Kept (foot b og om) w wr
  ng : New w og og'
  nm : New w om om'
  ge : ∀ g, o7 = some g → w.heap.size ≤ g
  ap : ∀ g, o7 = some g → g ∉ foot b og' om'
theorem FillSt.out {w : World} {b : Nat} {og om : Option Nat} {s : St} {l : List Nat} {k : Nat} {v : Value} {o7 og' om' : Option Nat} {wr : World} (h : FillSt w b og om s l k v o7 og' om' wr) : FillOut w b og om s l k (.returned v) wr := by
  obtain ⟨oa, c, e, h1, h2, h3, h4⟩ := h.que.cells
  exact ⟨oa, c, by rw [e], h3, fun a ha => h.ge _ (h4 a ha), og', om', h.pool, h.kept, h.ng, h.nm, fun a ha => h.ap _ (h4 a ha)⟩
theorem FillSt.step {w : World} {b : Nat} {og om : Option Nat} {s : St} {l : List Nat} {k : Nat} {v v' : Value} {o7 og' om' o7' : Option Nat} {wr w1 w2 : World} {o : Obj} (h : FillSt w b og om s l k v o7 og' om' wr)
    (hp : PoolTo wr b og' om' (s.runs k).next.S (s.runs k).next.L (s.runs k).next.nx w1) (hq : Que w2 v' o7' (l ++ s.outs (k + 1))) (hk : Kept o7.toList (w1.alloc o) w2) (hn : New (w1.alloc o) o7 o7') :
    ∃ og2 om2, FillSt w b og om s l (k + 1) v' o7' og2 om2 w2 := by
  obtain ⟨og2, om2, h1, h2, h3, h4⟩ := hp
  have hfl := h1.lt
  have ap2 : ∀ g, o7 = some g → g ∉ foot b og2 om2 := fun g hg hx => by
    rcases foot_new h3 h4 g hx with e | e
    · exact h.ap g hg e
    · have := h.que.lt g hg; omega
  have hk' := hk.alloc_then
  refine ⟨og2, om2, hq, h1.kept hk' (fun x hx hx2 => ap2 x (by simpa using hx2) hx), (h.kept.trans h2 (foot_new h.ng h.nm)).trans hk' (fun x hx => .inr (h.ge x (by simpa using hx))), h.ng.trans h3 h.kept.size, h.nm.trans h4 h.kept.size, fun g hg => ?_, fun g hg hx => ?_⟩
  · rcases hn.alloc g hg with e | e
    · exact h.ge g e
    · have := h.kept.size; have := h2.size; omega
  · rcases hn.alloc g hg with e | e
    · exact ap2 g e hx
    · have := hfl g hx; omega
theorem FillSt.que1 {w : World} {b : Nat} {og om : Option Nat} {s : St} {l : List Nat} {k : Nat} {v : Value} {o7 og' om' : Option Nat} {wr w1 : World} (h : FillSt w b og om s l k v o7 og' om' wr) {S L : List Nat} {nx : Nat}
    (hp : PoolTo wr b og' om' S L nx w1) (o : Obj) : Que (w1.alloc o) v o7 (l ++ s.outs k) := by
  obtain ⟨og2, om2, h1, h2, h3, h4⟩ := hp
  exact (h.que.kept h2 (fun g hg hx => h.ap g hg hx)).kept (Kept.alloc o) (fun g hg hx => by cases hx)

def lenOf : Value → Nat
  | .slice _ n _ => n
  | _ => 0

theorem fill12 (b : Nat) (og om : Option Nat) (s : St) (l : List Nat) (many : Int) (w : World) (oa : Option Addr) (cl : Nat) (h : Pool w b og om s.S s.L s.nx) (hi : Inv s) (hS : s.S.length ≤ 100000) (hL : s.L.length ≤ 100000)
    (hc : Cells w oa (l.map UV)) (ha : oa ≠ none) (hl : l.length ≤ 1000) :
    Calls Try.prog 12 #[.pointer (some ⟨b, 0, none⟩), .slice oa l.length cl, .int .i64 many] w (FillOut w b og om s l ((min many 64).toNat - l.length)) := by
  have HCL := Lib.hid (clone17 l w oa cl hc ha (by omega))
  have H := Lib.hid h; have HI := Lib.hid hi
  clear h hi hc
  obtain ⟨C, hC⟩ : ∃ C, (min many 64).toNat - l.length = C := ⟨_, rfl⟩
  have hC64 : C ≤ 64 := by omega
  have HLN := Lib.hid hl
  rw [hC]
  by_cases hm : many ≤ 64
  · have hm64 : many ≤ 64 := hm
    have HCC : Hid ((min many 64).toNat - l.length = C) := hC
    clear hC
    go_enter Try.func12, Try.ntmps12
    go_wp2_with fail
    refine HCL.out.mono ?_
    rintro r w1 ⟨v, o7, rfl, hq, hb, hge⟩
    have HF : Hid (FillSt w b og om s l 0 v o7 og om w1) := by
      have hk := Kept.of_below (F := []) hb
      refine Lib.hid ⟨by simpa [St.outs] using hq, H.out.kept hk (fun x _ hx => by cases hx), hk.mono (fun x hx => by cases hx), New.refl _ _, New.refl _ _, hge, fun g hg hx => ?_⟩
      have := H.out.lt g hx; have := hge g hg; omega
    clear hq hb hge HCL
    go_wp2_with fail
    go_loopw [7] (fun v wr => ∃ k o7 og' om', k ≤ C ∧ Hid (FillSt w b og om s l k v o7 og' om' wr)) (fun v _ => C + l.length + 2 - lenOf v)
    case atStart => exact ⟨0, o7, og, om, Nat.zero_le _, HF⟩
    case round =>
      obtain ⟨k, p7, og', om', hk, hF⟩ := hrel
      obtain ⟨oa7, c7, rfl, -⟩ := hF.out.que.cells
      have hlen : (l ++ s.outs k).length = l.length + k := by rw [List.length_append, St.outs_len]
      have HLEN := Lib.hid hlen
      rw [hlen]
      obtain ⟨N, hN⟩ : ∃ N, l.length + k = N := ⟨_, rfl⟩
      have HNN := Lib.hid hN
      rw [hN]
      by_cases hlt : k < C
      · have htest : (N : Int) < many := by have := HCC.out; omega
        have HK := Lib.hid hlt
        have HI2 := Lib.hid (HI.out.runs k (by omega))
        have hSk : (s.runs k).S.length ≤ 1000000 := by have := (s.runs_len k).1; omega
        have HSK := Lib.hid hSk
        have HF := hF
        clear hlen hN hlt hF hk hSk
        go_wp2_with fail
        refine (next9 b og' om' (s.runs k) wr HF.out.pool HI2.out HSK.out).mono ?_
        rintro r w2 ⟨rfl, hp⟩
        have HP := Lib.hid hp
        have hq1 := HF.out.que1 hp (.cells #[UV (s.runs k).nextX] 30)
        rw [HLEN.out, HNN.out] at hq1
        clear hp
        go_wp2_with (refine stop_append rfl ?_)
        refine ⟨wpList_que rfl _ _ rfl (by rfl) hq1 (by rw [HLEN.out]; have := HK.out; omega) (by rfl) (Cells.new (cs := [UV (s.runs k).nextX])) ?_⟩
        intro v' w4 o7' hq4 hk4 hn4
        rw [List.append_assoc, ← St.outs_succ] at hq4
        obtain ⟨og2, om2, hF2⟩ := HF.out.step HP.out hq4 hk4 hn4
        obtain ⟨oa4, c4, rfl, -⟩ := hF2.que.cells
        have HF2 := Lib.hid hF2
        have hl4 : (l ++ s.outs (k + 1)).length = N + 1 := by rw [List.length_append, St.outs_len, ← HNN.out]; omega
        rw [hl4] at HF2 ⊢
        clear hq4 hk4 hn4 hF2 hl4 hq1
        go_wp2_with fail
        go_roundw
        case measure => have h1 := HNN.out; have h2 := HK.out; simp [lenOf]; omega
        case rel => exact ⟨k + 1, o7', og2, om2, by have := HK.out; omega, HF2⟩
      · obtain rfl : k = C := by omega
        have htest : ¬ (N : Int) < many := by have := HCC.out; omega
        have HF := Lib.hid hF.out.out
        rw [hlen, hN] at HF
        clear hlen hN hF hlt
        go_wp2
        refine bodyPost_ret (v := .slice oa7 N c7) (by simp [results, Try.results12, go_sem]) rfl HF.out
  · have hm64 : ¬ many ≤ 64 := hm
    have HCC : Hid ((min many 64).toNat - l.length = C) := hC
    clear hC
    go_enter Try.func12, Try.ntmps12
    go_wp2_with fail
    refine HCL.out.mono ?_
    rintro r w1 ⟨v, o7, rfl, hq, hb, hge⟩
    have HF : Hid (FillSt w b og om s l 0 v o7 og om w1) := by
      have hk := Kept.of_below (F := []) hb
      refine Lib.hid ⟨by simpa [St.outs] using hq, H.out.kept hk (fun x _ hx => by cases hx), hk.mono (fun x hx => by cases hx), New.refl _ _, New.refl _ _, hge, fun g hg hx => ?_⟩
      have := H.out.lt g hx; have := hge g hg; omega
    clear hq hb hge HCL
    go_wp2_with fail
    go_loopw [7] (fun v wr => ∃ k o7 og' om', k ≤ C ∧ Hid (FillSt w b og om s l k v o7 og' om' wr)) (fun v _ => C + l.length + 2 - lenOf v)
    case atStart => exact ⟨0, o7, og, om, Nat.zero_le _, HF⟩
    case round =>
      obtain ⟨k, p7, og', om', hk, hF⟩ := hrel
      obtain ⟨oa7, c7, rfl, -⟩ := hF.out.que.cells
      have hlen : (l ++ s.outs k).length = l.length + k := by rw [List.length_append, St.outs_len]
      have HLEN := Lib.hid hlen
      rw [hlen]
      obtain ⟨N, hN⟩ : ∃ N, l.length + k = N := ⟨_, rfl⟩
      have HNN := Lib.hid hN
      rw [hN]
      by_cases hlt : k < C
      · have htest : (N : Int) < 64 := by have := HCC.out; omega
        have HK := Lib.hid hlt
        have HI2 := Lib.hid (HI.out.runs k (by omega))
        have hSk : (s.runs k).S.length ≤ 1000000 := by have := (s.runs_len k).1; omega
        have HSK := Lib.hid hSk
        have HF := hF
        clear hlen hN hlt hF hk hSk
        go_wp2_with fail
        refine (next9 b og' om' (s.runs k) wr HF.out.pool HI2.out HSK.out).mono ?_
        rintro r w2 ⟨rfl, hp⟩
        have HP := Lib.hid hp
        have hq1 := HF.out.que1 hp (.cells #[UV (s.runs k).nextX] 30)
        rw [HLEN.out, HNN.out] at hq1
        clear hp
        go_wp2_with (refine stop_append rfl ?_)
        refine ⟨wpList_que rfl _ _ rfl (by rfl) hq1 (by rw [HLEN.out]; have := HK.out; omega) (by rfl) (Cells.new (cs := [UV (s.runs k).nextX])) ?_⟩
        intro v' w4 o7' hq4 hk4 hn4
        rw [List.append_assoc, ← St.outs_succ] at hq4
        obtain ⟨og2, om2, hF2⟩ := HF.out.step HP.out hq4 hk4 hn4
        obtain ⟨oa4, c4, rfl, -⟩ := hF2.que.cells
        have HF2 := Lib.hid hF2
        have hl4 : (l ++ s.outs (k + 1)).length = N + 1 := by rw [List.length_append, St.outs_len, ← HNN.out]; omega
        rw [hl4] at HF2 ⊢
        clear hq4 hk4 hn4 hF2 hl4 hq1
        go_wp2_with fail
        go_roundw
        case measure => have h1 := HNN.out; have h2 := HK.out; simp [lenOf]; omega
        case rel => exact ⟨k + 1, o7', og2, om2, by have := HK.out; omega, HF2⟩
      · obtain rfl : k = C := by omega
        have htest : ¬ (N : Int) < 64 := by have := HCC.out; omega
        have HF := Lib.hid hF.out.out
        rw [hlen, hN] at HF
        clear hlen hN hF hlt
        go_wp2
        refine bodyPost_ret (v := .slice oa7 N c7) (by simp [results, Try.results12, go_sem]) rfl HF.out
end Go.Proofs.Ytfeebleplmophaa
