/-
  Walks of the document's pool: numbers are drawn; a new pool; the same numbers.
-/
import Derived.Test.YtfeebleplmophaaWh
import Derived.Test.YtfeebleplmophaaPlan
namespace Go.Proofs.Ytfeebleplmophaa
open Go.RowKit Go.Proofs.Ytfeebleplmophaa.Plan Go.Proofs.Ytfeebleplmophaa.Eager
set_option maxHeartbeats 1000000
set_option maxRecDepth 20000
set_option linter.unusedVariables false
set_option linter.unusedSimpArgs false

theorem fresh_base {s : St} (h : Inv s) : fresh s.S 9223372036854775808 = fresh s.S s.nx := by
  have hf := fresh_is s.S s.nx
  exact fresh_eq ⟨Nat.le_trans h.ge hf.le, hf.out, fun k hk hk2 => by
    by_cases e : k < s.nx
    · exact h.all k hk e
    · exact hf.all k (by omega) hk2⟩

theorem refNext_laid (b : Nat) (ol oa : Option Nat) (S L : List Nat) (x : Nat) (w : World) (h : Ref w b ol oa S (x :: L)) :
    Calls Try.prog 10 #[.pointer (some ⟨b, 0, none⟩)] w fun e w' => e = .returned (.int .u64 x) ∧ RefTo w b ol oa S L w' := by
  obtain ⟨vl, va, hB, hq, ha⟩ := h.mem
  have hbl := hB.lt
  have c3 : w.cell? ⟨b, 0, none⟩ = some vl := hB.at' 0 (by simp)
  have cz := hB.froz
  have H := Lib.hid h
  rcases hq with ⟨-, e, -⟩ | ⟨g, off, cap, rfl, rfl, h1, h2, h3, h4, h5, h6⟩
  · cases e
  have hx0 : w.cell? ⟨g, off, none⟩ = some (.int .u64 (x : Int)) := by
    have := h4 0 (by simp)
    simpa [UV] using this
  have hll : (x :: L).length = L.length + 1 := rfl
  rw [hll] at h1 c3
  have hcap : L.length + 1 ≤ cap := h1
  obtain ⟨N, hN⟩ : ∃ N, L.length + 1 = N := ⟨_, rfl⟩
  rw [hN] at c3 hcap
  have hN1 : (0 : Int) < (N : Int) := by omega
  have hN2 : (1 : Int) ≤ (N : Int) := by omega
  have hN3 : (1 : Int) ≤ (cap : Int) := by omega
  have hN4 : (N : Int) ≤ (cap : Int) := by omega
  have hNL : N - 1 = L.length := by omega
  have HQT : ∀ o, (o = off + 1 ∨ cap = 1) → Hid (Que w (.slice (some ⟨g, o, none⟩) L.length (cap - 1)) (some g) L) := fun o ho => by
    refine Lib.hid (.inr ⟨g, o, cap - 1, rfl, rfl, by omega, by omega, h3, fun j hj => ?_, fun j hj => ?_, h6⟩)
    · rcases ho with rfl | e
      · have := h4 (j + 1) (by simp; omega)
        rw [show off + 1 + j = off + (j + 1) by omega, this]
        simp
      · omega
    · rcases ho with rfl | e
      · rw [show off + 1 + j = off + (j + 1) by omega]; exact h5 _ (by omega)
      · omega
  have hgl := h3
  clear hB ha h1 h2 h3 h4 h5 h6 hll hN h
  by_cases hc1 : cap = 1
  · have HQ := HQT off (.inr hc1)
    have HC1 := Lib.hid hc1
    clear HQT
    go_enter Try.func10, Try.ntmps10
    go_wp2
    refine bodyPost_ret (v := .int .u64 x) (by simp [results, Try.results10, go_sem]) rfl ⟨rfl, ?_⟩
    have hq := HQ.out
    rw [HC1.out] at hq
    exact Ref.setl H.out (Kept.refl _ _) (New.refl _ _) hq
  · have HQ := HQT (off + 1) (.inl rfl)
    clear HQT
    go_enter Try.func10, Try.ntmps10
    go_wp2
    refine bodyPost_ret (v := .int .u64 x) (by simp [results, Try.results10, go_sem]) rfl ⟨rfl, ?_⟩
    exact Ref.setl H.out (Kept.refl _ _) (New.refl _ _) HQ.out

theorem refNext_fresh (b : Nat) (ol oa : Option Nat) (S : List Nat) (w : World) (h : Ref w b ol oa S []) (hS : S.length ≤ 1000000) :
    Calls Try.prog 10 #[.pointer (some ⟨b, 0, none⟩)] w fun e w' => e = .returned (.int .u64 (fresh S 9223372036854775808)) ∧ RefTo w b ol oa (S ++ [fresh S 9223372036854775808]) [] w' := by
  obtain ⟨vl, va, hB, hq, ha⟩ := h.mem
  have hbl := hB.lt
  have c3 : w.cell? ⟨b, 0, none⟩ = some vl := hB.at' 0 (by simp)
  have cz := hB.froz
  have H := Lib.hid h
  obtain ⟨oa', c, rfl, -⟩ := hq.cells
  simp only [List.length_nil] at c3
  clear hB hq ha h
  go_enter Try.func10, Try.ntmps10
  go_wp2
  clear c3 hbl cz
  go_loopw [4] (fun u wr => ∃ m : Nat, 9223372036854775808 ≤ m ∧ u = .int .u64 m ∧ Hid (∀ k, 9223372036854775808 ≤ k → k < m → k ∈ S) ∧ Hid (Below w.heap.size w wr)) (fun u wr => 9223372036854775808 + S.length + 2 - (intOf u).toNat)
  case atStart => exact ⟨9223372036854775808, Nat.le_refl _, rfl, Lib.hid (fun k h1 h2 => by omega), Lib.hid (Below.refl _ _)⟩
  case round =>
    obtain ⟨m, hm, rfl, hall, hb0⟩ := hrel
    have hms : m - 9223372036854775808 ≤ S.length := row_le 9223372036854775808 (m - 9223372036854775808) S (fun k h1 h2 => hall.out k h1 (by omega))
    have HM := Lib.hid (And.intro hms hm)
    have hP := H.out.kept (F := []) (Kept.of_below hb0.out) (fun x _ hx => by cases hx)
    have HP := Lib.hid hP
    have HSE := Lib.hid (refSeen15 b ol oa S [] m wr hP hS)
    have HB0 := hb0
    clear hP hb0
    by_cases hin : m ∈ S
    · rw [decide_eq_true hin] at HSE
      have HIN := Lib.hid hin
      have rm : IntKind.u64.wrap ((m : Int) + 1) = ((m + 1 : Nat) : Int) := by rw [IntKind.wrap_u64]; omega
      clear hin hms hm
      go_wp2_with fail
      refine HSE.out.mono ?_
      rintro r w1 ⟨rfl, hb⟩
      have HB1 := Lib.hid (below_step HB0.out hb)
      clear hb HSE
      go_wp2_with fail
      go_roundw
      case measure => have := HM.out; simp [intOf]; omega
      case rel =>
        have h1 := HM.out
        refine ⟨m + 1, by omega, rfl, Lib.hid (fun k h1 h2 => ?_), HB1⟩
        by_cases e : k = m
        · rw [e]; exact HIN.out
        · exact hall.out k h1 (by omega)
    · rw [decide_eq_false hin] at HSE
      have HFR : Hid (fresh S 9223372036854775808 = m) := fresh_eq ⟨hm, hin, hall.out⟩
      clear hin hms hm
      go_wp2_with fail
      refine HSE.out.mono ?_
      rintro r w1 ⟨rfl, hb⟩
      have hP1 := HP.out.kept (F := []) (Kept.of_below hb) (fun x _ hx => by cases hx)
      obtain ⟨vl, va, hB, hl, ha⟩ := hP1.mem
      have c1 : w1.cell? ⟨b, 1, none⟩ = some va := hB.at' 1 (by simp)
      have hbl := hB.lt
      have HP1 := Lib.hid hP1; have HBB := Lib.hid hB; have HQ := Lib.hid ha
      have HB1 := Lib.hid (below_step HB0.out hb)
      clear hB hl ha hb hP1 HSE HP
      go_wp2_with (refine stop_append rfl ?_)
      refine ⟨wpList_que rfl _ _ rfl (by rfl) (HQ.out.kept (Kept.alloc _) (fun _ _ hx => by cases hx)) hS (by rfl) (Cells.new (cs := [UV m])) ?_⟩
      intro v' w4 og' hq4 hk4 hn4
      obtain ⟨oa4, c4, rfl, -⟩ := hq4.cells
      have hll : (S ++ [m]).length = S.length + 1 := by simp
      rw [hll] at hq4 ⊢
      clear hll
      have hk4' := hk4.alloc_then
      have hbl4 := HBB.out.kept hk4' (fun hx => HP1.out.ab (by simpa using hx))
      have hbl5 := hbl4.lt
      have c1' : w4.cell? ⟨b, 1, none⟩ = some va := hbl4.at' 1 (by simp)
      have cz := hbl4.froz
      have HF := Lib.hid (RefTo.after (Kept.of_below HB1.out) (New.refl _ _) (New.refl _ _) (HP1.out.seta hk4' hn4.alloc hq4))
      clear hq4 hk4 hn4 hk4' hbl4 c1 hall HM
      go_wp2
      refine bodyPost_ret (v := .int .u64 m) (by simp [results, Try.results10, go_sem]) rfl ⟨by rw [HFR.out], by rw [HFR.out]; exact HF.out⟩

theorem refNext10 (b : Nat) (ol oa : Option Nat) (s : St) (w : World) (h : Ref w b ol oa s.S s.L) (hi : Inv s) (hS : s.S.length ≤ 1000000) :
    Calls Try.prog 10 #[.pointer (some ⟨b, 0, none⟩)] w fun e w' => e = .returned (.int .u64 s.nextX) ∧ RefTo w b ol oa s.next.S s.next.L w' := by
  have hf := fresh_base hi
  obtain ⟨S, L, nx⟩ := s
  cases L with
  | cons x r => exact refNext_laid b ol oa S r x w h
  | nil =>
    have := refNext_fresh b ol oa S w h hS
    simp only at hf
    rw [hf] at this
    exact this

def RFillOut (w : World) (b : Nat) (ol oa : Option Nat) (s : St) (l : List Nat) (c : Nat) (e : Ending) (w' : World) : Prop :=
  ∃ ad cp, e = .returned (.slice ad (l ++ s.outs c).length cp) ∧ Cells w' ad ((l ++ s.outs c).map UV) ∧ RefTo w b ol oa (s.runs c).S (s.runs c).L w'
structure RFillSt (w : World) (b : Nat) (ol oa : Option Nat) (s : St) (l : List Nat) (k : Nat) (v : Value) (o7 ol' oa' : Option Nat) (wr : World) : Prop where
  que : Que wr v o7 (l ++ s.outs k)
  ref : Ref wr b ol' oa' (s.runs k).S (s.runs k).L
  kept : Kept (foot b ol oa) w wr
  ng : New w ol ol'
  nm : New w oa oa'
  ge : ∀ g, o7 = some g → w.heap.size ≤ g
  ap : ∀ g, o7 = some g → g ∉ foot b ol' oa'
theorem RFillSt.out {w : World} {b : Nat} {ol oa : Option Nat} {s : St} {l : List Nat} {k : Nat} {v : Value} {o7 ol' oa' : Option Nat} {wr : World} (h : RFillSt w b ol oa s l k v o7 ol' oa' wr) : RFillOut w b ol oa s l k (.returned v) wr := by
  obtain ⟨ad, c, e, h1, h2, h3, h4⟩ := h.que.cells
  exact ⟨ad, c, by rw [e], h3, ol', oa', h.ref, h.kept, h.ng, h.nm⟩
theorem RFillSt.step {w : World} {b : Nat} {ol oa : Option Nat} {s : St} {l : List Nat} {k : Nat} {v v' : Value} {o7 ol' oa' o7' : Option Nat} {wr w1 w2 : World} {o : Obj} (h : RFillSt w b ol oa s l k v o7 ol' oa' wr)
    (hp : RefTo wr b ol' oa' (s.runs k).next.S (s.runs k).next.L w1) (hq : Que w2 v' o7' (l ++ s.outs (k + 1))) (hk : Kept o7.toList (w1.alloc o) w2) (hn : New (w1.alloc o) o7 o7') :
    ∃ ol2 oa2, RFillSt w b ol oa s l (k + 1) v' o7' ol2 oa2 w2 := by
  obtain ⟨ol2, oa2, h1, h2, h3, h4⟩ := hp
  have hfl := h1.lt
  have ap2 : ∀ g, o7 = some g → g ∉ foot b ol2 oa2 := fun g hg hx => by
    rcases foot_new h3 h4 g hx with e | e
    · exact h.ap g hg e
    · have := h.que.lt g hg; omega
  have hk' := hk.alloc_then
  refine ⟨ol2, oa2, hq, h1.kept hk' (fun x hx hx2 => ap2 x (by simpa using hx2) hx), (h.kept.trans h2 (foot_new h.ng h.nm)).trans hk' (fun x hx => .inr (h.ge x (by simpa using hx))), h.ng.trans h3 h.kept.size, h.nm.trans h4 h.kept.size, fun g hg => ?_, fun g hg hx => ?_⟩
  · rcases hn.alloc g hg with e | e
    · exact h.ge g e
    · have := h.kept.size; have := h2.size; omega
  · rcases hn.alloc g hg with e | e
    · exact ap2 g e hx
    · have := hfl g hx; omega
theorem RFillSt.que1 {w : World} {b : Nat} {ol oa : Option Nat} {s : St} {l : List Nat} {k : Nat} {v : Value} {o7 ol' oa' : Option Nat} {wr w1 : World} (h : RFillSt w b ol oa s l k v o7 ol' oa' wr) {S L : List Nat}
    (hp : RefTo wr b ol' oa' S L w1) (o : Obj) : Que (w1.alloc o) v o7 (l ++ s.outs k) := by
  obtain ⟨ol2, oa2, h1, h2, h3, h4⟩ := hp
  exact (h.que.kept h2 (fun g hg hx => h.ap g hg hx)).kept (Kept.alloc o) (fun g hg hx => by cases hx)

theorem refFill13 (b : Nat) (ol oa : Option Nat) (s : St) (l : List Nat) (many : Int) (w : World) (ad : Option Addr) (cl : Nat) (h : Ref w b ol oa s.S s.L) (hi : Inv s) (hS : s.S.length ≤ 100000) (hL : s.L.length ≤ 100000)
    (hc : Cells w ad (l.map UV)) (hl : l.length ≤ 1000) :
    Calls Try.prog 13 #[.pointer (some ⟨b, 0, none⟩), .slice ad l.length cl, .int .i64 many] w (RFillOut w b ol oa s l ((min many 64).toNat - l.length)) := by
  have HC := Lib.hid hc
  have H := Lib.hid h; have HI := Lib.hid hi
  clear h hi hc
  obtain ⟨C, hC⟩ : ∃ C, (min many 64).toNat - l.length = C := ⟨_, rfl⟩
  have hC64 : C ≤ 64 := by omega
  have HLN := Lib.hid hl
  rw [hC]
  have HCC : Hid ((min many 64).toNat - l.length = C) := hC
  clear hC
  go_enter Try.func13, Try.ntmps13
  go_wp2_with (refine stop_append rfl ?_)
  have h0 := Own.lit w [] 30 1 0 (by simp [maxLen]) rfl w.heap.size (Nat.le_refl _)
  refine ⟨wpList_app el27 rfl rfl (by rfl) h0 (by rfl) (m := l.length) (by simp) (HC.out.alloc _) UV_one (by simp [maxLen]; omega) (by omega) (by simp) ?_⟩
  intro v w1 hown hg
  have hb : Below w.heap.size w w1 := h0.below hg ((Below.refl _ _).alloc (Nat.le_refl _) _) (Nat.le_refl _) (by simp)
  rw [List.nil_append] at hown
  obtain ⟨o7, hq, hge⟩ := Que.own hown
  have HF : Hid (RFillSt w b ol oa s l 0 v o7 ol oa w1) := by
    have hk := Kept.of_below (F := []) hb
    refine Lib.hid ⟨by simpa [St.outs] using hq, H.out.kept hk (fun x _ hx => by cases hx), hk.mono (fun x hx => by cases hx), New.refl _ _, New.refl _ _, hge, fun g hg hx => ?_⟩
    have := H.out.lt g hx; have := hge g hg; omega
  clear hq hb hge hown h0 hg HC
  go_wp2_with fail
  go_loopw [7] (fun v wr => ∃ k o7 ol' oa', k ≤ C ∧ Hid (RFillSt w b ol oa s l k v o7 ol' oa' wr)) (fun v _ => C + l.length + 2 - lenOf v)
  case atStart => exact ⟨0, o7, ol, oa, Nat.zero_le _, HF⟩
  case round =>
    obtain ⟨k, p7, og', om', hk, hF⟩ := hrel
    obtain ⟨oa7, c7, rfl, -⟩ := hF.out.que.cells
    have hlen : (l ++ s.outs k).length = l.length + k := by rw [List.length_append, St.outs_len]
    have HLEN := Lib.hid hlen
    rw [hlen]
    obtain ⟨N, hN⟩ : ∃ N, l.length + k = N := ⟨_, rfl⟩
    have HNN := Lib.hid hN
    rw [hN]
    by_cases hlt : k < C
    · have ht1 : (N : Int) < many := by have := HCC.out; omega
      have ht2 : (N : Int) < 64 := by have := HCC.out; omega
      have HK := Lib.hid hlt
      have HI2 := Lib.hid (HI.out.runs k (by omega))
      have hSk : (s.runs k).S.length ≤ 1000000 := by have := (s.runs_len k).1; omega
      have HSK := Lib.hid hSk
      have HF := hF
      clear hlen hN hlt hF hk hSk
      go_wp2_with fail
      refine (refNext10 b og' om' (s.runs k) wr HF.out.ref HI2.out HSK.out).mono ?_
      rintro r w2 ⟨rfl, hp⟩
      have HP := Lib.hid hp
      have hq1 := HF.out.que1 hp (.cells #[UV (s.runs k).nextX] 30)
      rw [HLEN.out, HNN.out] at hq1
      clear hp
      go_wp2_with (refine stop_append rfl ?_)
      refine ⟨wpList_que rfl _ _ rfl (by rfl) hq1 (by rw [HLEN.out]; have := HK.out; omega) (by rfl) (Cells.new (cs := [UV (s.runs k).nextX])) ?_⟩
      intro v' w4 o7' hq4 hk4 hn4
      rw [List.append_assoc, ← St.outs_succ] at hq4
      obtain ⟨og2, om2, hF2⟩ := HF.out.step HP.out hq4 hk4 hn4
      obtain ⟨oa4, c4, rfl, -⟩ := hF2.que.cells
      have HF2 := Lib.hid hF2
      have hl4 : (l ++ s.outs (k + 1)).length = N + 1 := by rw [List.length_append, St.outs_len, ← HNN.out]; omega
      rw [hl4] at HF2 ⊢
      clear hq4 hk4 hn4 hF2 hl4 hq1
      go_wp2_with fail
      go_roundw
      case measure => have h1 := HNN.out; have h2 := HK.out; simp [lenOf]; omega
      case rel => exact ⟨k + 1, o7', og2, om2, by have := HK.out; omega, HF2⟩
    · obtain rfl : k = C := by omega
      have HF := Lib.hid hF.out.out
      rw [hlen, hN] at HF
      by_cases ht1 : (N : Int) < many
      · have ht2 : ¬ (N : Int) < 64 := by have := HCC.out; omega
        clear hlen hN hF hlt
        go_wp2
        refine bodyPost_ret (v := .slice oa7 N c7) (by simp [results, Try.results13, go_sem]) rfl HF.out
      · clear hlen hN hF hlt
        go_wp2
        refine bodyPost_ret (v := .slice oa7 N c7) (by simp [results, Try.results13, go_sem]) rfl HF.out

theorem fill_nil (w : World) : Calls Try.prog 12 #[.pointer none, .slice none 0 0, .int .i64 3] w fun e w' => e = .returned (.slice none 0 0) ∧ Below w.heap.size w w' := by
  go_enter Try.func12, Try.ntmps12
  go_wp2_with fail
  refine (clone_nil w).mono ?_
  rintro r w1 ⟨rfl, hb⟩
  have HB := Lib.hid hb
  clear hb
  go_wp2_with fail
  go_loopw [7] (fun u wr => u = .slice none 0 0 ∧ Hid (Below w.heap.size w wr)) (fun _ _ => 0)
  case atStart => exact ⟨rfl, HB⟩
  case round =>
    obtain ⟨rfl, HB2⟩ := hrel
    go_wp2
    refine bodyPost_ret (v := .slice none 0 0) (by simp [results, Try.results12, go_sem]) rfl ⟨rfl, HB2.out⟩

theorem new6 (w : World) : Calls Try.prog 6 #[] w fun e w' => e = .returned (.pointer (some ⟨w.heap.size, 0, none⟩)) ∧ Pool w' w.heap.size none none [] [] 9223372036854775808 ∧ Below w.heap.size w w' := by
  go_enter Try.func6, Try.ntmps6
  go_wp2
  refine bodyPost_ret (v := .pointer (some ⟨w.heap.size, 0, none⟩)) (by simp [results, Try.results6, go_sem]) rfl ⟨rfl, ⟨⟨0, .slice none 0 0, .map none, ?_, Que.nil _, .inl ⟨rfl, rfl, rfl⟩, .inl ⟨rfl, rfl⟩⟩, by simp, by simp, by simp⟩, by (with_reducible try refine Lib.hid ?_); (repeat (with_reducible first | assumption | exact Below.refl _ _ | apply Below.drew | apply Below.drewN' | apply Below.setCell | apply Below.alloc)) <;> (try simp [length_fillTo, length_turnTo]) <;> (try omega)⟩
  exact Blk.new' (cs := [.int .u32 0, .int .i32 0, .int .u32 0, .slice none 0 0, .map none, UV 9223372036854775808]) rfl

theorem same11 (a : List Nat) (w : World) (o1 o2 : Option Addr) (c1 c2 : Nat) (h1 : Cells w o1 (a.map UV)) (h2 : Cells w o2 (a.map UV)) (hl : a.length ≤ 1000000) :
    Calls Try.prog 11 #[.slice o1 a.length c1, .slice o2 a.length c2] w fun r w' => r = .returned (.bool true) ∧ Below w.heap.size w w' := by
  have H1 := Lib.hid h1; have H2 := Lib.hid h2; clear h1 h2
  go_enter Try.func11, Try.ntmps11
  go_wp2
  go_loopw [5, 13] (fun _ u wr => ∃ i : Nat, i ≤ a.length ∧ u = .int .i64 i ∧ Hid (Below w.heap.size w wr)) (fun _ u _ => a.length - (intOf u).toNat)
  case atStart => exact ⟨0, by omega, rfl, by (with_reducible try refine Lib.hid ?_); (repeat (with_reducible first | assumption | exact Below.refl _ _ | apply Below.drew | apply Below.drewN' | apply Below.setCell | apply Below.alloc)) <;> (try simp [length_fillTo, length_turnTo]) <;> (try omega)⟩
  case round =>
    obtain ⟨i, hk, rfl, hbel⟩ := hrel
    by_cases hlt : i < a.length
    · have hi1 : (i : Int) < (a.length : Int) := by omega
      have rk : IntKind.i64.wrap ((i : Int) + 1) = ((i + 1 : Nat) : Int) := by rw [IntKind.wrap_i64]; omega
      obtain ⟨b1, p1, rfl, hb1, hc1⟩ := (H1.out.below hbel.out (Nat.le_refl _)).num hlt
      obtain ⟨b2, p2, rfl, hb2, hc2⟩ := (H2.out.below hbel.out (Nat.le_refl _)).num hlt
      obtain ⟨s, hs⟩ : ∃ q, a[i] = q := ⟨_, rfl⟩
      rw [hs] at hc1 hc2
      have HC1 := Lib.hid hc1; have HC2 := Lib.hid hc2
      clear hs hc1 hc2
      obtain ⟨wA, rfl⟩ : ∃ x, x = wr := ⟨_, rfl⟩
      go_wp2_with fail
      refine wp_region_plan none [] [] (.take 0 (.take 1 (.take 2 (.take 3 (.take 4 (.take 5 (.take 6 (.take 7 (.take 8 .done))))))))) (by kernel_rfl) (by kernel_rfl) (fun _ _ dd _ _ h => by cases dd <;> exact h) ?_
      intro W0 hW0
      have hbW : Below w.heap.size w W0 := by rw [hW0]; exact hbel.out.drew
      have hl1 : b1 < W0.heap.size := by rw [hW0]; exact hb1
      have hl2 : b2 < W0.heap.size := by rw [hW0]; exact hb2
      have hC1 : W0.cell? ⟨b1, p1 + i, none⟩ = some (.int .u64 (s : Int)) := by rw [hW0]; exact HC1.out
      have hC2 : W0.cell? ⟨b2, p2 + i, none⟩ = some (.int .u64 (s : Int)) := by rw [hW0]; exact HC2.out
      clear hW0
      (refine pl_take (d := 16) (v := ?_) rfl rfl rfl ?_ ?_; rotate_left; (focus ((intro w' hb0 hw'; go_simp) <;> with_reducible rfl)); simp only [Act.put, List.setIfInBounds_toArray, List.set_cons_zero, List.set_cons_succ])
      (refine pl_take (d := 17) (v := ?_) rfl rfl rfl ?_ ?_; rotate_left; (focus ((intro w' hb0 hw'; go_simp) <;> with_reducible rfl)); simp only [Act.put, List.setIfInBounds_toArray, List.set_cons_zero, List.set_cons_succ])
      (refine pl_take (d := 18) (v := ?_) rfl rfl rfl ?_ ?_; rotate_left; (focus ((intro w' hb0 hw'; go_simp) <;> with_reducible rfl)); simp only [Act.put, List.setIfInBounds_toArray, List.set_cons_zero, List.set_cons_succ])
      (refine pl_take (d := 19) (v := ?_) rfl rfl rfl ?_ ?_; rotate_left; (focus ((intro w' hb0 hw'; have q1 : w'.cell? ⟨b1, p1 + i, none⟩ = some (.int .u64 (s : Int)) := (hw'.cell (p := ⟨b1, p1 + i, none⟩) hl1).trans hC1; go_simp) <;> with_reducible rfl)); simp only [Act.put, List.setIfInBounds_toArray, List.set_cons_zero, List.set_cons_succ])
      (refine pl_take (d := 20) (v := ?_) rfl rfl rfl ?_ ?_; rotate_left; (focus ((intro w' hb0 hw'; go_simp) <;> with_reducible rfl)); simp only [Act.put, List.setIfInBounds_toArray, List.set_cons_zero, List.set_cons_succ])
      (refine pl_take (d := 21) (v := ?_) rfl rfl rfl ?_ ?_; rotate_left; (focus ((intro w' hb0 hw'; go_simp) <;> with_reducible rfl)); simp only [Act.put, List.setIfInBounds_toArray, List.set_cons_zero, List.set_cons_succ])
      (refine pl_take (d := 22) (v := ?_) rfl rfl rfl ?_ ?_; rotate_left; (focus ((intro w' hb0 hw'; go_simp) <;> with_reducible rfl)); simp only [Act.put, List.setIfInBounds_toArray, List.set_cons_zero, List.set_cons_succ])
      (refine pl_take (d := 23) (v := ?_) rfl rfl rfl ?_ ?_; rotate_left; (focus ((intro w' hb0 hw'; have q2 : w'.cell? ⟨b2, p2 + i, none⟩ = some (.int .u64 (s : Int)) := (hw'.cell (p := ⟨b2, p2 + i, none⟩) hl2).trans hC2; go_simp) <;> with_reducible rfl)); simp only [Act.put, List.setIfInBounds_toArray, List.set_cons_zero, List.set_cons_succ])
      refine pl_take (d := 24) (v := .bool false) rfl rfl rfl ?_ ?_
      · intro w' hb0 hw'
        go_simp
      simp only [Act.put, List.setIfInBounds_toArray, List.set_cons_zero, List.set_cons_succ]
      refine pl_end ?_
      go_wp2_with fail
      go_roundw
      case measure => (simp [intOf]) <;> omega
      case rel => exact ⟨i + 1, by omega, rfl, Lib.hid hbW⟩
    · obtain rfl : i = a.length := by omega
      have hb1 := hbel.out
      clear hbel
      go_wp2
      refine bodyPost_ret (v := .bool true) (by simp [results, Try.results11, go_sem]) rfl ⟨rfl, hb1⟩
end Go.Proofs.Ytfeebleplmophaa
