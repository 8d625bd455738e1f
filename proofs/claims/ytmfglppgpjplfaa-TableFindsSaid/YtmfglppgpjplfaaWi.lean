/-
  The plain law of a table that is added to: who waits or is busy stays.
-/
import Derived.Test.YtmfglppgpjplfaaWh
namespace Go.Proofs.Ytmfglppgpjplfaa
open Go.RowKit
set_option maxHeartbeats 1000000
set_option linter.unusedVariables false
set_option linter.unusedSimpArgs false

theorem idleTo_may (l : List Ses) (busy : List Nat) : ∀ (k b : Nat) (h : b < l.length), idleTo l busy k = some b → mayD busy l[b] = true
  | 0, b, h, e => by simp [idleTo] at e
  | k + 1, b, h, e => by
    rw [idleTo] at e
    unfold idleStep at e
    cases hl : l[k]? with
    | none => rw [hl] at e; exact idleTo_may l busy k b h e
    | some s =>
      obtain ⟨hk, hks⟩ := List.getElem?_eq_some_iff.1 hl
      rw [hl] at e
      simp only at e
      by_cases hm : mayD busy s = true
      · rw [if_pos hm] at e
        cases hb : idleTo l busy k with
        | none =>
          rw [hb] at e
          simp only [Option.some.injEq] at e
          subst e; rw [hks]; exact hm
        | some b' =>
          rw [hb] at e
          simp only at e
          by_cases hu : s.used < useAt l b'
          · rw [if_pos hu] at e
            simp only [Option.some.injEq] at e
            subst e; rw [hks]; exact hm
          · rw [if_neg hu] at e
            simp only [Option.some.injEq] at e
            subst e
            exact idleTo_may l busy k b' h hb
      · rw [if_neg hm] at e
        exact idleTo_may l busy k b h e

/-- behind so many of the elder ones: how many of the new list were met; who was left out may go -/
structure Met (l k : List Ses) (i j at' : Nat) : Prop where
  st : (at' = j ∧ (i < j → ∀ (h : j < l.length) (hi : i < l.length), l[j] = l[i])) ∨ (at' + 1 = j ∧ i < j)
/-- the new list: without one, and one more -/
theorem Met.start (l k : List Ses) (i : Nat) : Met l k i 0 0 := ⟨.inl ⟨rfl, fun h => by omega⟩⟩
theorem new_get (l : List Ses) (s : Ses) (i : Nat) (hi : i < l.length) (a : Nat) (ha : a < l.length - 1) : ∃ h : a < (l.eraseIdx i ++ [s]).length, (l.eraseIdx i ++ [s])[a] = if h2 : a < i then l[a]'(by omega) else l[a + 1]'(by omega) := by
  have hl : (l.eraseIdx i).length = l.length - 1 := by simp [List.length_eraseIdx, hi]
  refine ⟨by simp [hl]; omega, ?_⟩
  rw [List.getElem_append_left (by omega), List.getElem_eraseIdx]
/-- one was met -/
theorem Met.hit {l : List Ses} {s : Ses} {i j at' : Nat} (hi : i < l.length) (hj : j < l.length) (h : Met l (l.eraseIdx i ++ [s]) i j at') (ha : at' < l.length - 1) (he : ∃ hh : at' < (l.eraseIdx i ++ [s]).length, (l.eraseIdx i ++ [s])[at'] = l[j]) :
    Met l (l.eraseIdx i ++ [s]) i (j + 1) (at' + 1) := by
  obtain ⟨hh, he⟩ := he
  obtain ⟨h1, h2⟩ := new_get l s i hi at' ha
  rw [h2] at he
  rcases h.st with ⟨e, hc⟩ | ⟨e, hc⟩
  · subst e
    refine ⟨.inl ⟨rfl, fun hlt h3 h4 => ?_⟩⟩
    by_cases hai : at' < i
    · have : at' + 1 = i := by omega
      subst this; rfl
    · rw [dif_neg hai] at he
      rw [he]
      by_cases hai2 : i < at'
      · exact hc hai2 hj hi
      · have : i = at' := by omega
        subst this; rfl
  · exact ⟨.inr ⟨by omega, by omega⟩⟩
/-- one was not -/
theorem Met.miss {l : List Ses} {s : Ses} {busy : List Nat} {i j at' : Nat} (hi : i < l.length) (hj : j < l.length) (h : Met l (l.eraseIdx i ++ [s]) i j at')
    (hm : mayD busy l[i] = true) (hne : at' < l.length - 1 → ∀ hh : at' < (l.eraseIdx i ++ [s]).length, (l.eraseIdx i ++ [s])[at'] ≠ l[j]) :
    mayD busy l[j] = true ∧ Met l (l.eraseIdx i ++ [s]) i (j + 1) at' := by
  rcases h.st with ⟨e, hc⟩ | ⟨e, hc⟩
  · subst e
    by_cases ha : at' < l.length - 1
    · obtain ⟨h1, h2⟩ := new_get l s i hi at' ha
      have h3 := hne ha h1
      rw [h2] at h3
      by_cases hai : at' < i
      · rw [dif_pos hai] at h3; exact absurd rfl h3
      · refine ⟨?_, ⟨.inr ⟨rfl, by omega⟩⟩⟩
        by_cases hai2 : i < at'
        · rw [hc hai2 hj hi]; exact hm
        · have : i = at' := by omega
          subst this; exact hm
    · refine ⟨?_, ⟨.inr ⟨rfl, by omega⟩⟩⟩
      by_cases hai2 : i < at'
      · rw [hc hai2 hj hi]; exact hm
      · have : i = at' := by omega
        subst this; exact hm
  · exfalso
    have ha : at' < l.length - 1 := by omega
    obtain ⟨h1, h2⟩ := new_get l s i hi at' ha
    apply hne ha h1
    rw [h2, dif_neg (by omega)]
    subst e; rfl
theorem Met.stop {l k : List Ses} {i at' : Nat} (hi : i < l.length) (h : Met l k i l.length at') (ha : at' ≤ l.length - 1) : at' = l.length - 1 := by
  rcases h.st with ⟨e, -⟩ | ⟨e, -⟩ <;> omega
end Go.Proofs.Ytmfglppgpjplfaa
