/-
  Walk: the chapter's example.
-/
import Derived.Test.YtfeebleplmophaaWi
namespace Go.Proofs.Ytfeebleplmophaa
open Go.RowKit
set_option maxHeartbeats 1000000
set_option maxRecDepth 20000
set_option linter.unusedVariables false
set_option linter.unusedSimpArgs false

/-- a pool that a call itself has made -/
def Live (w0 w : World) (b : Nat) (S L : List Nat) (nx : Nat) : Prop := ∃ og om, Pool w b og om S L nx ∧ Below w0.heap.size w0 w ∧ ∀ x ∈ foot b og om, w0.heap.size ≤ x
theorem Live.bel {w0 w : World} {b : Nat} {S L : List Nat} {nx : Nat} (h : Live w0 w b S L nx) : Below w0.heap.size w0 w := by
  obtain ⟨_, _, _, h, _⟩ := h; exact h
theorem Live.below {w0 w w' : World} {b : Nat} {S L : List Nat} {nx : Nat} (h : Live w0 w b S L nx) (hb : Below w.heap.size w w') : Live w0 w' b S L nx := by
  obtain ⟨og, om, h1, h2, h3⟩ := h
  exact ⟨og, om, h1.kept (F := []) (Kept.of_below hb) (fun x _ hx => by cases hx), below_step h2 hb, h3⟩
theorem Live.to {w0 w w' : World} {b : Nat} {og om : Option Nat} {S L : List Nat} {nx : Nat} (h2 : Below w0.heap.size w0 w) (h3 : ∀ x ∈ foot b og om, w0.heap.size ≤ x) (h : PoolTo w b og om S L nx w') : Live w0 w' b S L nx := by
  obtain ⟨og', om', h4, h5, h6, -, -, -⟩ := h.below h2 h2.size h3
  exact ⟨og', om', h4, h5, h6⟩
theorem lay_live {w0 w : World} {b : Nat} {S L : List Nat} {nx : Nat} (h : Live w0 w b S L nx) (n : Nat) (hn : n < 18446744073709551616) (hS : S.length ≤ 1000000) (hL : L.length ≤ 1000000) :
    Calls Try.prog 7 #[.pointer (some ⟨b, 0, none⟩), .int .u64 n] w fun e w' => e = .returned (.int .i64 (layC S n)) ∧ Live w0 w' b (layS S n) (layL S L n) nx := by
  obtain ⟨og, om, h1, h2, h3⟩ := h
  refine (lay7 b og om S L nx n w h1 hn hS hL).mono ?_
  rintro e w' ⟨rfl, hp⟩
  exact ⟨rfl, Live.to h2 h3 hp⟩
theorem seen_live {w0 w : World} {b : Nat} {S L : List Nat} {nx : Nat} (h : Live w0 w b S L nx) (n : Nat) (hn : n < 18446744073709551616) :
    Calls Try.prog 14 #[.pointer (some ⟨b, 0, none⟩), .int .u64 n] w fun e w' => e = .returned (.bool (decide (n ∈ S))) ∧ Live w0 w' b S L nx := by
  have h0 := h
  obtain ⟨og, om, h1, h2, h3⟩ := h
  refine (seen14 b og om S L nx n w h1 hn).mono ?_
  rintro e w' ⟨rfl, hb⟩
  exact ⟨rfl, h0.below hb⟩
theorem next_live {w0 w : World} {b : Nat} {s : St} (h : Live w0 w b s.S s.L s.nx) (hi : Inv s) (hS : s.S.length ≤ 1000000) :
    Calls Try.prog 9 #[.pointer (some ⟨b, 0, none⟩)] w fun e w' => e = .returned (.int .u64 s.nextX) ∧ Live w0 w' b s.next.S s.next.L s.next.nx := by
  obtain ⟨og, om, h1, h2, h3⟩ := h
  refine (next9 b og om s w h1 hi hS).mono ?_
  rintro e w' ⟨rfl, hp⟩
  exact ⟨rfl, Live.to h2 h3 hp⟩
theorem new_live {w0 w : World} (h : Below w0.heap.size w0 w) : Calls Try.prog 6 #[] w fun e w' => e = .returned (.pointer (some ⟨w.heap.size, 0, none⟩)) ∧ Live w0 w' w.heap.size [] [] 9223372036854775808 := by
  refine (new6 w).mono ?_
  rintro e w' ⟨rfl, h1, h2⟩
  refine ⟨rfl, none, none, h1, below_step h h2, fun x hx => ?_⟩
  rcases mem_foot.1 hx with rfl | e | e
  · exact h.size
  · cases e
  · cases e

def s1 : St := ⟨[5], [5], 9223372036854775808⟩
def s2 : St := ⟨[5], [], 9223372036854775808⟩
theorem s1_inv : Inv s1 := ⟨Nat.le_refl _, fun k h1 h2 => by simp only [s1] at h2; omega, fun x hx => hx, fun x hx => by simp [s1] at hx; omega, fun x hx => by simp [s1] at hx; omega⟩
theorem s2_inv : Inv s2 := ⟨Nat.le_refl _, fun k h1 h2 => by simp only [s2] at h2; omega, fun x hx => (by cases hx), fun x hx => by simp [s2] at hx; omega, fun x hx => by simp [s2] at hx; omega⟩
theorem s1_next : s1.next = s2 := rfl
theorem s2_fresh : fresh [5] 9223372036854775808 = 9223372036854775808 := fresh_eq ⟨Nat.le_refl _, by simp, fun k h1 h2 => by omega⟩
theorem s2_nextX : s2.nextX = 9223372036854775808 := s2_fresh
theorem s2_next : s2.next = ⟨[5, 9223372036854775808], [], 9223372036854775808⟩ := by
  show (⟨[5] ++ [fresh [5] 9223372036854775808], [], fresh [5] 9223372036854775808⟩ : St) = _
  rw [s2_fresh]; rfl

theorem works5 (w : World) : Calls Try.prog 5 #[] w fun r w' => r = .returned (.bool true) ∧ Below w.heap.size w w' := by
  go_enter Try.func5, Try.ntmps5
  go_wp2_with fail
  refine (new_live (Below.refl w.heap.size w)).mono ?_
  rintro r w1 ⟨rfl, h⟩
  have H := Lib.hid h; clear h
  go_wp2_with fail
  refine (lay_live H.out 5 (by omega) (by simp) (by simp)).mono ?_
  rintro r w2 ⟨rfl, h⟩
  have e : layC [] 5 = 0 := rfl
  rw [e]
  have H := Lib.hid (show Live w w2 w.heap.size s1.S s1.L s1.nx from h); clear h e
  go_wp2_with fail
  refine (next_live H.out s1_inv (by simp [s1])).mono ?_
  rintro r w3 ⟨rfl, h⟩
  have e : s1.nextX = 5 := rfl
  rw [e]
  rw [s1_next] at h
  have H := Lib.hid h; clear h e
  go_wp2_with fail
  refine (next_live H.out s2_inv (by simp [s2])).mono ?_
  rintro r w4 ⟨rfl, h⟩
  rw [s2_nextX]
  rw [s2_next] at h
  have H := Lib.hid h; clear h
  go_wp2_with fail
  refine (lay_live H.out 5 (by omega) (by simp) (by simp)).mono ?_
  rintro r w5 ⟨rfl, h⟩
  have e : layC [5, 9223372036854775808] 5 = 35 := by simp [layC]
  have e2 : layS [5, 9223372036854775808] 5 = [5, 9223372036854775808] := by simp [layS]
  have e3 : layL [5, 9223372036854775808] [] 5 = [] := by simp [layL]
  rw [e]
  simp only [e2, e3] at h
  have H := Lib.hid h; clear h e e2 e3
  go_wp2_with fail
  refine (lay_live H.out 0 (by omega) (by simp) (by simp)).mono ?_
  rintro r w6 ⟨rfl, h⟩
  have e : layC [5, 9223372036854775808] 0 = 2 := rfl
  have e2 : layS [5, 9223372036854775808] 0 = [5, 9223372036854775808] := rfl
  have e3 : layL [5, 9223372036854775808] [] 0 = [] := rfl
  rw [e]
  simp only [e2, e3] at h
  have H := Lib.hid h; clear h e e2 e3
  go_wp2_with fail
  refine (seen_live H.out 5 (by omega)).mono ?_
  rintro r w7 ⟨rfl, h⟩
  have e : decide (5 ∈ [5, 9223372036854775808]) = true := by decide
  rw [e]
  have H := Lib.hid h; clear h e
  go_wp2_with fail
  refine (seen_live H.out 6 (by omega)).mono ?_
  rintro r w8 ⟨rfl, h⟩
  have e : decide (6 ∈ [5, 9223372036854775808]) = false := by decide
  rw [e]
  have H := Lib.hid h.bel; clear h e
  go_wp2_with fail
  refine (lay_nil _ w8).mono ?_
  rintro r w9 ⟨rfl, hb⟩
  have H := Lib.hid (below_step H.out hb); clear hb
  go_wp2_with fail
  refine (next_nil w9).mono ?_
  rintro r w10 ⟨rfl, hb⟩
  have H := Lib.hid (below_step H.out hb); clear hb
  go_wp2_with fail
  refine (seen_nil _ w10).mono ?_
  rintro r w11 ⟨rfl, hb⟩
  have H := Lib.hid (below_step H.out hb); clear hb
  go_wp2_with fail
  refine (fill_nil w11).mono ?_
  rintro r w12 ⟨rfl, hb⟩
  have H := Lib.hid (below_step H.out hb); clear hb
  go_wp2
  refine bodyPost_ret (v := .bool true) (by simp [results, Try.results5, go_sem]) rfl ⟨rfl, H.out⟩
end Go.Proofs.Ytfeebleplmophaa
