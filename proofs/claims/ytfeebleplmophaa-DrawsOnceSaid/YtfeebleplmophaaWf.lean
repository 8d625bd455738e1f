/-
  Walks: a number is drawn.
-/
import Derived.Test.YtfeebleplmophaaWe
namespace Go.Proofs.Ytfeebleplmophaa
open Go.RowKit
set_option maxHeartbeats 1000000
set_option maxRecDepth 20000
set_option linter.unusedVariables false
set_option linter.unusedSimpArgs false

/-- the first number from x on that is not among others -/
def freshF : Nat → List Nat → Nat → Nat
  | 0, _, x => x
  | f + 1, S, x => if x ∈ S then freshF f S (x + 1) else x
def fresh (S : List Nat) (x : Nat) : Nat := freshF (S.length + 1) S x
structure IsFresh (S : List Nat) (x m : Nat) : Prop where
  le : x ≤ m
  out : m ∉ S
  all : ∀ k, x ≤ k → k < m → k ∈ S
theorem IsFresh.unique {S : List Nat} {x m m' : Nat} (h : IsFresh S x m) (h' : IsFresh S x m') : m = m' := by
  rcases Nat.lt_trichotomy m m' with e | e | e
  · exact absurd (h'.all m h.le e) h.out
  · exact e
  · exact absurd (h.all m' h'.le e) h'.out
/-- so many numbers in a row are among others only where there are so many -/
theorem row_le (x : Nat) : ∀ (c : Nat) (S : List Nat), (∀ k, x ≤ k → k < x + c → k ∈ S) → c ≤ S.length
  | 0, _, _ => Nat.zero_le _
  | c + 1, S, h => by
    have h1 : x + c ∈ S := h (x + c) (by omega) (by omega)
    have h2 := row_le x c (S.erase (x + c)) (fun k hk hk2 => (List.mem_erase_of_ne (by omega)).2 (h k hk (by omega)))
    rw [List.length_erase_of_mem h1] at h2
    have := List.length_pos_of_mem h1
    omega
theorem freshF_is (S : List Nat) : ∀ (f x : Nat), x ≤ freshF f S x ∧ freshF f S x ≤ x + f ∧ (∀ k, x ≤ k → k < freshF f S x → k ∈ S) ∧ (freshF f S x ∈ S → freshF f S x = x + f)
  | 0, x => ⟨Nat.le_refl _, Nat.le_refl _, fun k h1 h2 => by simp only [freshF] at h2; omega, fun _ => rfl⟩
  | f + 1, x => by
    simp only [freshF]
    by_cases h : x ∈ S
    · rw [if_pos h]
      obtain ⟨h1, h2, h3, h4⟩ := freshF_is S f (x + 1)
      refine ⟨by omega, by omega, fun k hk hk2 => ?_, fun hm => by have := h4 hm; omega⟩
      by_cases e : k = x
      · rw [e]; exact h
      · exact h3 k (by omega) hk2
    · rw [if_neg h]
      exact ⟨Nat.le_refl _, by omega, fun k h1 h2 => by omega, fun hm => absurd hm h⟩
theorem fresh_is (S : List Nat) (x : Nat) : IsFresh S x (fresh S x) := by
  obtain ⟨h1, h2, h3, h4⟩ := freshF_is S (S.length + 1) x
  refine ⟨h1, fun hm => ?_, h3⟩
  have := row_le x (S.length + 1) S (fun k hk hk2 => by
    by_cases e : k < freshF (S.length + 1) S x
    · exact h3 k hk e
    · have h5 := h4 hm; omega)
  omega
theorem fresh_le (S : List Nat) (x : Nat) : fresh S x ≤ x + S.length := by
  have h := fresh_is S x
  have := row_le x (fresh S x - x) S (fun k hk hk2 => h.all k hk (by have := h.le; omega))
  have := h.le
  omega
theorem fresh_eq {S : List Nat} {x m : Nat} (h : IsFresh S x m) : fresh S x = m := (fresh_is S x).unique h

theorem Pool.setnx {w : World} {b : Nat} {og om : Option Nat} {S L : List Nat} {nx : Nat} (h : Pool w b og om S L nx) (m : Nat) : Pool (w.setCell ⟨b, 5, none⟩ (UV m)) b og om S L m := by
  obtain ⟨d, v, s, hB, hq, hs, hd⟩ := h.mem
  have hk : Kept [b] w (w.setCell ⟨b, 5, none⟩ (UV m)) := Kept.set1 _ _ _ _
  exact ⟨⟨d, v, s, hB.set 5 (by simp) _, hq.kept hk (fun g hg hx => h.gb (by rw [hg, List.mem_singleton.1 hx])), hs.kept hk (fun g hg hx => h.mb (by rw [hg, List.mem_singleton.1 hx])), hd⟩, h.gb, h.mb, h.gm⟩
def nxOf (w : World) (b : Nat) : Nat := match w.cell? ⟨b, 5, none⟩ with
  | some (.int _ z) => z.toNat
  | _ => 0
theorem nxOf_of {w : World} {b m : Nat} (h : w.cell? ⟨b, 5, none⟩ = some (.int .u64 (m : Int))) : nxOf w b = m := by
  unfold nxOf; rw [h]; simp

theorem next_laid (b : Nat) (og om : Option Nat) (S L : List Nat) (nx x : Nat) (w : World) (h : Pool w b og om S (x :: L) nx) :
    Calls Try.prog 9 #[.pointer (some ⟨b, 0, none⟩)] w fun e w' => e = .returned (.int .u64 x) ∧ PoolTo w b og om S L nx w' := by
  obtain ⟨d, v, s, hB, hq, hs, hd⟩ := h.mem
  have hbl := hB.lt
  have c3 : w.cell? ⟨b, 3, none⟩ = some v := hB.at' 3 (by simp)
  have cz := hB.froz
  have H := Lib.hid h
  rcases hq with ⟨-, e, -⟩ | ⟨g, off, cap, rfl, rfl, h1, h2, h3, h4, h5, h6⟩
  · cases e
  have hx0 : w.cell? ⟨g, off, none⟩ = some (.int .u64 (x : Int)) := by
    have := h4 0 (by simp)
    simpa [UV] using this
  have hll : (x :: L).length = L.length + 1 := rfl
  rw [hll] at h1 c3
  have hcap : L.length + 1 ≤ cap := h1
  obtain ⟨N, hN⟩ : ∃ N, L.length + 1 = N := ⟨_, rfl⟩
  rw [hN] at c3 hcap
  have hN1 : (0 : Int) < (N : Int) := by omega
  have hN2 : (1 : Int) ≤ (N : Int) := by omega
  have hN3 : (1 : Int) ≤ (cap : Int) := by omega
  have hN4 : (N : Int) ≤ (cap : Int) := by omega
  have hNL : N - 1 = L.length := by omega
  have HQT : ∀ o, (o = off + 1 ∨ cap = 1) → Hid (Que w (.slice (some ⟨g, o, none⟩) L.length (cap - 1)) (some g) L) := fun o ho => by
    refine Lib.hid (.inr ⟨g, o, cap - 1, rfl, rfl, by omega, by omega, h3, fun j hj => ?_, fun j hj => ?_, h6⟩)
    · rcases ho with rfl | e
      · have := h4 (j + 1) (by simp; omega)
        rw [show off + 1 + j = off + (j + 1) by omega, this]
        simp
      · omega
    · rcases ho with rfl | e
      · rw [show off + 1 + j = off + (j + 1) by omega]; exact h5 _ (by omega)
      · omega
  have hgl := h3
  clear hB hs hd h1 h2 h3 h4 h5 h6 hll hN h
  by_cases hc1 : cap = 1
  · have HQ := HQT off (.inr hc1)
    have HC1 := Lib.hid hc1
    clear HQT
    go_enter Try.func9, Try.ntmps9
    go_wp2
    refine bodyPost_ret (v := .int .u64 x) (by simp [results, Try.results9, go_sem]) rfl ⟨rfl, ?_⟩
    have hq := HQ.out
    rw [HC1.out] at hq
    exact Pool.setq H.out (Kept.refl _ _) (New.refl _ _) hq
  · have HQ := HQT (off + 1) (.inl rfl)
    clear HQT
    go_enter Try.func9, Try.ntmps9
    go_wp2
    refine bodyPost_ret (v := .int .u64 x) (by simp [results, Try.results9, go_sem]) rfl ⟨rfl, ?_⟩
    exact Pool.setq H.out (Kept.refl _ _) (New.refl _ _) HQ.out

theorem next_fresh (b : Nat) (og om : Option Nat) (S : List Nat) (nx : Nat) (w : World) (h : Pool w b og om S [] nx) (hS : S.length ≤ 1000000) (hnx : nx ≤ 18446744073700000000) :
    Calls Try.prog 9 #[.pointer (some ⟨b, 0, none⟩)] w fun e w' => e = .returned (.int .u64 (fresh S nx)) ∧ PoolTo w b og om (S ++ [fresh S nx]) [] (fresh S nx) w' := by
  obtain ⟨d, v, s, hB, hq, hs, hd⟩ := h.mem
  have hbl := hB.lt
  have c3 : w.cell? ⟨b, 3, none⟩ = some v := hB.at' 3 (by simp)
  have cz := hB.froz
  have H := Lib.hid h
  obtain ⟨oa, c, rfl, -⟩ := hq.cells
  simp only [List.length_nil] at c3
  clear hB hq hs hd h
  go_enter Try.func9, Try.ntmps9
  go_wp2
  clear c3 hbl cz
  go_loopw [] (fun wr => ∃ m, nx ≤ m ∧ Hid (∀ k, nx ≤ k → k < m → k ∈ S) ∧ Hid (Pool wr b og om S [] m) ∧ Hid (Kept (foot b og om) w wr)) (fun wr => nx + S.length + 2 - nxOf wr b)
  case atStart => exact ⟨nx, Nat.le_refl _, Lib.hid (fun k h1 h2 => by omega), H, Lib.hid (Kept.refl _ _)⟩
  case round =>
    obtain ⟨m, hm, hall, hP, hk⟩ := hrel
    have hms : m - nx ≤ S.length := row_le nx (m - nx) S (fun k h1 h2 => hall.out k h1 (by omega))
    obtain ⟨d, v, s, hB, hq, hs, hd⟩ := hP.out.mem
    have c5 : wr.cell? ⟨b, 5, none⟩ = some (.int .u64 (m : Int)) := hB.at' 5 (by simp)
    have hbl := hB.lt
    have HM := Lib.hid hms
    have HN5 := Lib.hid (nxOf_of c5)
    have HSE := Lib.hid (seen14 b og om S [] m m wr hP.out (by omega))
    by_cases hin : m ∈ S
    · rw [decide_eq_true hin] at HSE
      have HIN := Lib.hid hin
      clear hB hq hs hd hin hms
      go_wp2_with fail
      refine HSE.out.mono ?_
      rintro r w1 ⟨rfl, hb⟩
      have hP1 := hP.out.kept (F := []) (Kept.of_below hb) (fun x _ hx => by cases hx)
      obtain ⟨d, v, s, hB, hq, hs, hd⟩ := hP1.mem
      have c5' : w1.cell? ⟨b, 5, none⟩ = some (.int .u64 (m : Int)) := hB.at' 5 (by simp)
      have cz := hB.froz
      have hbl1 := hB.lt
      have rm : IntKind.u64.wrap ((m : Int) + 1) = ((m + 1 : Nat) : Int) := by have := HM.out; rw [IntKind.wrap_u64]; omega
      have HP1 := Lib.hid (hP1.setnx (m + 1))
      have HK1 := Lib.hid ((hk.out.trans (Kept.of_below (F := []) hb) (fun x hx => by cases hx)).trans (Kept.set1 w1 b 5 (UV (m + 1))) (fun x hx => .inl (mem_foot.2 (.inl (List.mem_singleton.1 hx)))))
      have hB6 := hB.set 5 (by simp) (UV (m + 1))
      have HC6 := Lib.hid (nxOf_of (m := m + 1) (hB6.at' 5 (by simp)))
      clear hB hq hs hd hb hP1 c5 HSE hP hk hB6
      go_wp2_with fail
      have e6 : UV (m + 1) = .int .u64 ((m : Int) + 1) := rfl
      rw [e6] at HP1 HK1 HC6
      refine ⟨⟨m + 1, by omega, Lib.hid (fun k h1 h2 => ?_), HP1, HK1⟩, ?_⟩
      · by_cases e : k = m
        · rw [e]; exact HIN.out
        · exact hall.out k h1 (by omega)
      · rw [HC6.out, HN5.out]; have := HM.out; omega
    · rw [decide_eq_false hin] at HSE
      have HFR : Hid (fresh S nx = m) := fresh_eq ⟨hm, hin, hall.out⟩
      clear hB hq hs hd hin hms
      go_wp2_with fail
      refine HSE.out.mono ?_
      rintro r w1 ⟨rfl, hb⟩
      have hP1 := hP.out.kept (F := []) (Kept.of_below hb) (fun x _ hx => by cases hx)
      obtain ⟨d, v, s, hB, hq, hs, hd⟩ := hP1.mem
      have c5' : w1.cell? ⟨b, 5, none⟩ = some (.int .u64 (m : Int)) := hB.at' 5 (by simp)
      have hbl1 := hB.lt
      have HP1 := Lib.hid hP1
      have HK1 := Lib.hid (hk.out.trans (Kept.of_below (F := []) hb) (fun x hx => by cases hx))
      have HMB : Hid (m < 18446744073709551616) := by show _ < _; have := HM.out; omega
      clear hB hq hs hd hb hP1 c5 HSE hP hk
      go_wp2_with fail
      refine (mark16 b og om S [] m m w1 HP1.out HMB.out hS).mono ?_
      rintro r w2 ⟨rfl, og2, om2, hp2, hk2, hg2, hm2⟩
      obtain ⟨d, v, s, hB, hq, hs, hd⟩ := hp2.mem
      have c5 : w2.cell? ⟨b, 5, none⟩ = some (.int .u64 (m : Int)) := hB.at' 5 (by simp)
      have hbl2 := hB.lt
      have HF := Lib.hid (PoolTo.after HK1.out (fun k hk => .inl hk) (fun k hk => .inl hk) (⟨og2, om2, hp2, hk2, hg2, hm2⟩ : PoolTo w1 b og om (S ++ [m]) [] m w2))
      clear hB hq hs hd hp2 hk2 hg2 hm2 c5' hall HM
      go_wp2
      refine bodyPost_ret (v := .int .u64 m) (by simp [results, Try.results9, go_sem]) rfl ⟨by rw [HFR.out], by rw [HFR.out]; exact HF.out⟩
theorem next_nil (w : World) : Calls Try.prog 9 #[.pointer none] w fun e w' => e = .returned (.int .u64 0) ∧ Below w.heap.size w w' := by
  go_enter Try.func9, Try.ntmps9
  go_wp2
  refine bodyPost_ret (v := .int .u64 0) (by simp [results, Try.results9, go_sem]) rfl ⟨rfl, Below.refl _ _⟩
end Go.Proofs.Ytfeebleplmophaa
