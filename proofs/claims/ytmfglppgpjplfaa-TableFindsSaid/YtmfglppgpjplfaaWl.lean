/-
  Walk: the document's list without one; the plain law of who may go.
-/
import Derived.Test.YtmfglppgpjplfaaWk
namespace Go.Proofs.Ytmfglppgpjplfaa
open Go.RowKit Go.Proofs.Ytmfglppgpjplfaa.Plan Go.Proofs.Ytmfglppgpjplfaa.Eager
set_option maxHeartbeats 2000000
set_option maxRecDepth 20000
set_option linter.unusedVariables false
set_option linter.unusedSimpArgs false

def dropD (l : List Ses) (a : Int) : List Ses := if 0 ≤ a then l.eraseIdx a.toNat else l
theorem drop_succ (l : List Ses) (a : Int) {k : Nat} (h : k < l.length) : dropD (l.take (k + 1)) a = if (k : Int) = a then dropD (l.take k) a else dropD (l.take k) a ++ [l[k]] := by
  rw [List.take_succ_eq_append_getElem h]
  unfold dropD
  by_cases h0 : 0 ≤ a
  · rw [if_pos h0, if_pos h0, List.eraseIdx_append]
    have hl : (l.take k).length = k := by simp; omega
    by_cases h1 : a.toNat < k
    · rw [if_pos (by omega), if_neg (by omega)]
    · rw [if_neg (by omega), List.eraseIdx_of_length_le (k := a.toNat) (by omega)]
      by_cases h2 : (k : Int) = a
      · rw [if_pos h2, hl, show a.toNat - k = 0 by omega]; simp
      · rw [if_neg h2, hl, List.eraseIdx_of_length_le (by simp; omega)]
  · rw [if_neg h0, if_neg h0, if_neg (by omega)]
theorem drop_len (l : List Ses) (a : Int) : (dropD l a).length ≤ l.length := by
  unfold dropD; split
  · rw [List.length_eraseIdx]; split <;> omega
  · exact Nat.le_refl _

def DropOk (w : World) (l : List Ses) (e : Ending) (w' : World) : Prop :=
  ∃ v, e = .returned v ∧ Own w' w.heap.size 30 20 v l.length (l.flatMap Ses.cells) ∧ Below w.heap.size w w'
theorem refDrop25 (l : List Ses) (a : Int) (w : World) (oa : Option Addr) (n c : Nat) (h : RSes w oa n c l) (hl : l.length ≤ 900) :
    Calls Try.prog 25 #[.slice oa n c, .int .i64 a] w (DropOk w (dropD l a)) := by
  obtain rfl : n = l.length := h.rows.len
  have H := Lib.hid h; have HL := Lib.hid hl; clear h hl
  go_enter Try.func25, Try.ntmps25
  go_wp2
  go_loopw [5, 6] (fun v i wr => ∃ k : Nat, k ≤ l.length ∧ i = .int .i64 k ∧ Hid (Own wr w.heap.size 30 20 v (dropD (l.take k) a).length ((dropD (l.take k) a).flatMap Ses.cells)) ∧ Hid (Below w.heap.size w wr)) (fun _ i _ => l.length - (intOf i).toNat)
  case atStart => exact ⟨0, by omega, rfl, Lib.hid (by unfold dropD; split <;> exact Own.nil _ _ _ _), by (with_reducible try refine Lib.hid ?_); (repeat (with_reducible first | assumption | exact Below.refl _ _ | apply Below.drew | apply Below.drewN' | apply Below.setCell | apply Below.alloc)) <;> (try simp [length_fillTo, length_turnTo]) <;> (try omega)⟩
  case round =>
    obtain ⟨k, hk, rfl, hO, hbel⟩ := hrel
    by_cases hlt : k < l.length
    · have hi1 : (k : Int) < (l.length : Int) := by omega
      have rk : IntKind.i64.wrap ((k : Int) + 1) = ((k + 1 : Nat) : Int) := by
        have h1 := HL.out
        rw [IntKind.wrap_i64]; omega
      have HT := Lib.hid (drop_succ l a hlt)
      have hlen : (dropD (l.take k) a).length ≤ 900 := by
        have h1 := drop_len (l.take k) a
        have h2 := HL.out
        simp only [List.length_take] at h1
        omega
      obtain ⟨b1, p1, rfl, hA⟩ := (H.out.rows.below hbel.out).ses hlt
      obtain ⟨s, hs⟩ : ∃ s, l[k] = s := ⟨_, rfl⟩
      rw [hs] at hA HT
      clear hs
      obtain ⟨L, hL⟩ : ∃ L, dropD (l.take k) a = L := ⟨_, rfl⟩
      rw [hL] at hO HT hlen
      have HLEN := Lib.hid hlen
      clear hL hlen
      by_cases hka : (k : Int) = a
      · rw [if_pos hka] at HT
        subst hka
        go_wp2_with fail
        go_roundw
        case measure => (simp [intOf]) <;> omega
        case rel => exact ⟨k + 1, by omega, rfl, Lib.hid (by rw [HT.out]; exact hO.out), hbel⟩
      · rw [if_neg hka] at HT
        have hal2 : Below wr.heap.size wr (wr.alloc (.cells s.cells.toArray 30)) := (Below.refl _ _).alloc (Nat.le_refl _) _
        have hN3 : Blk (wr.alloc (.cells s.cells.toArray 30)) wr.heap.size s.cells := Blk.new' rfl
        have HO5 := Lib.hid (hO.out.later hal2); have HB5 := Lib.hid (below_step hbel.out hal2); have HN3 := Lib.hid hN3
        clear hal2 hN3 hO hbel
        go_wp2_with (refine stop_load (ty := 30) rfl ?_)
        refine ⟨wpList_load_at rfl rfl hA (by rfl) row30 ?_⟩
        clear hA
        have hlc := cells_20 s
        go_wp2_with (refine stop_append rfl ?_)
        rw [fold_ses s]
        clear hlc
        have hlen := HLEN.out
        refine ⟨wpList_app el22 rfl (by rfl) (by rfl) HO5.out (by rfl) (m := 1) rfl HN3.out.cells (ses_one s) (by simp [maxLen]; omega) (by omega) HB5.out.size ?_⟩
        intro v6 W6 hO6 hg6
        have hb6 := HO5.out.below hg6 HB5.out (Nat.le_refl _) HB5.out.size
        have HO6 := Lib.hid hO6; have HB6 := Lib.hid hb6
        clear hO6 hg6 hb6 hlen HO5 HB5 HN3
        go_wp2_with fail
        go_roundw
        case measure => (simp [intOf]) <;> omega
        case rel => exact ⟨k + 1, by omega, rfl, Lib.hid (by rw [HT.out]; simpa using HO6.out), HB6⟩
    · obtain rfl : k = l.length := by omega
      rw [List.take_length] at hO
      have HO := hO; have HB := hbel; clear hO hbel
      go_wp2
      refine bodyPost_ret (v := u5) (by simp [results, Try.results25, go_sem]) rfl ⟨_, rfl, HO.out, HB.out⟩

/-- the best one, from the end on -/
def bestStep (l : List Ses) (busy : List Nat) (best : Option Nat) (k : Nat) : Option Nat := match l[k]? with
  | some s => if mayD busy s then (match best with
    | none => some k
    | some b => if s.used ≤ useAt l b then some k else some b) else best
  | none => best
def bestN (l : List Ses) (busy : List Nat) : Nat → Option Nat
  | 0 => none
  | m + 1 => bestStep l busy (bestN l busy m) (l.length - 1 - m)
/-- the one that was used least, the first one of several -/
structure Least (l : List Ses) (busy : List Nat) (x y : Nat) (b : Nat) : Prop where
  lt : b < l.length
  lo : x ≤ b
  hi : b < y
  may : mayD busy l[b] = true
  least : ∀ j (h : j < l.length), x ≤ j → j < y → mayD busy l[j] = true → l[b].used ≤ l[j].used ∧ (j < b → l[b].used < l[j].used)
def Spec (l : List Ses) (busy : List Nat) (lo hi : Nat) : Option Nat → Prop
  | none => ∀ j (h : j < l.length), lo ≤ j → j < hi → mayD busy l[j] = false
  | some b => Least l busy lo hi b
theorem use_at (l : List Ses) {b : Nat} (h : b < l.length) : useAt l b = l[b].used := by unfold useAt; rw [List.getElem?_eq_getElem h]
theorem idle_spec (l : List Ses) (busy : List Nat) : ∀ k, k ≤ l.length → Spec l busy 0 k (idleTo l busy k)
  | 0, _ => fun j h h0 h1 => by omega
  | k + 1, hk => by
    have ih := idle_spec l busy k (by omega)
    have hkl : k < l.length := hk
    rw [idleTo]
    unfold idleStep
    rw [List.getElem?_eq_getElem hkl]
    simp only
    by_cases hm : mayD busy l[k] = true
    · rw [if_pos hm]
      cases hb : idleTo l busy k with
      | none =>
        rw [hb] at ih
        refine ⟨hkl, Nat.zero_le _, Nat.lt_succ_self _, hm, fun j hj h0 h1 hmj => ?_⟩
        by_cases e : j = k
        · subst e; exact ⟨Int.le_refl _, fun h => by omega⟩
        · have := ih j hj h0 (by omega)
          rw [hmj] at this; cases this
      | some b =>
        rw [hb] at ih
        have hL : Least l busy 0 k b := ih
        simp only
        rw [use_at l hL.lt]
        by_cases hu : l[k].used < (l[b]'hL.lt).used
        · rw [if_pos hu]
          refine ⟨hkl, Nat.zero_le _, Nat.lt_succ_self _, hm, fun j hj h0 h1 hmj => ?_⟩
          by_cases e : j = k
          · subst e; exact ⟨Int.le_refl _, fun h => by omega⟩
          · have := (hL.least j hj h0 (by omega) hmj).1
            exact ⟨by omega, fun _ => by omega⟩
        · rw [if_neg hu]
          refine ⟨hL.lt, Nat.zero_le _, Nat.lt_succ_of_lt hL.hi, hL.may, fun j hj h0 h1 hmj => ?_⟩
          by_cases e : j = k
          · subst e; exact ⟨by omega, fun h => by have := hL.hi; omega⟩
          · exact hL.least j hj h0 (by omega) hmj
    · rw [if_neg hm]
      have hm2 : mayD busy l[k] = false := by simpa using hm
      cases hb : idleTo l busy k with
      | none =>
        rw [hb] at ih
        intro j hj h0 h1
        by_cases e : j = k
        · subst e; exact hm2
        · exact ih j hj h0 (by omega)
      | some b =>
        rw [hb] at ih
        have hL : Least l busy 0 k b := ih
        refine ⟨hL.lt, Nat.zero_le _, Nat.lt_succ_of_lt hL.hi, hL.may, fun j hj h0 h1 hmj => ?_⟩
        by_cases e : j = k
        · subst e; rw [hmj] at hm2; cases hm2
        · exact hL.least j hj h0 (by omega) hmj
theorem best_spec (l : List Ses) (busy : List Nat) : ∀ m, m ≤ l.length → Spec l busy (l.length - m) l.length (bestN l busy m)
  | 0, _ => fun j h h0 h1 => by omega
  | m + 1, hm1 => by
    have ih := best_spec l busy m (by omega)
    obtain ⟨k, hk⟩ : ∃ k, l.length - 1 - m = k := ⟨_, rfl⟩
    have hkl : k < l.length := by omega
    have e1 : l.length - (m + 1) = k := by omega
    have e2 : l.length - m = k + 1 := by omega
    rw [e1]
    rw [e2] at ih
    rw [bestN, hk]
    unfold bestStep
    rw [List.getElem?_eq_getElem hkl]
    simp only
    by_cases hm : mayD busy l[k] = true
    · rw [if_pos hm]
      cases hb : bestN l busy m with
      | none =>
        rw [hb] at ih
        refine ⟨hkl, Nat.le_refl _, hkl, hm, fun j hj h0 h1 hmj => ?_⟩
        by_cases e : j = k
        · subst e; exact ⟨Int.le_refl _, fun h => by omega⟩
        · have := ih j hj (by omega) h1
          rw [hmj] at this; cases this
      | some b =>
        rw [hb] at ih
        have hL : Least l busy (k + 1) l.length b := ih
        simp only
        rw [use_at l hL.lt]
        by_cases hu : l[k].used ≤ (l[b]'hL.lt).used
        · rw [if_pos hu]
          refine ⟨hkl, Nat.le_refl _, hkl, hm, fun j hj h0 h1 hmj => ?_⟩
          by_cases e : j = k
          · subst e; exact ⟨Int.le_refl _, fun h => by omega⟩
          · have := (hL.least j hj (by omega) h1 hmj).1
            exact ⟨by omega, fun h => by omega⟩
        · rw [if_neg hu]
          have hlo := hL.lo
          refine ⟨hL.lt, by omega, hL.hi, hL.may, fun j hj h0 h1 hmj => ?_⟩
          by_cases e : j = k
          · subst e; exact ⟨by omega, fun h => by omega⟩
          · exact hL.least j hj (by omega) h1 hmj
    · rw [if_neg hm]
      have hm2 : mayD busy l[k] = false := by simpa using hm
      cases hb : bestN l busy m with
      | none =>
        rw [hb] at ih
        intro j hj h0 h1
        by_cases e : j = k
        · subst e; exact hm2
        · exact ih j hj (by omega) h1
      | some b =>
        rw [hb] at ih
        have hL : Least l busy (k + 1) l.length b := ih
        have hlo := hL.lo
        refine ⟨hL.lt, by omega, hL.hi, hL.may, fun j hj h0 h1 hmj => ?_⟩
        by_cases e : j = k
        · subst e; rw [hmj] at hm2; cases hm2
        · exact hL.least j hj (by omega) h1 hmj
theorem best_idle (l : List Ses) (busy : List Nat) : bestN l busy l.length = idleD l busy := by
  have h1 := idle_spec l busy l.length (Nat.le_refl _)
  have h2 := best_spec l busy l.length (Nat.le_refl _)
  rw [Nat.sub_self] at h2
  unfold idleD
  cases e1 : idleTo l busy l.length with
  | none =>
    rw [e1] at h1
    cases e2 : bestN l busy l.length with
    | none => rfl
    | some b =>
      rw [e2] at h2
      have hL : Least l busy 0 l.length b := h2
      have := h1 b hL.lt hL.lo hL.hi
      rw [hL.may] at this; cases this
  | some a =>
    rw [e1] at h1
    have hA : Least l busy 0 l.length a := h1
    cases e2 : bestN l busy l.length with
    | none =>
      rw [e2] at h2
      have := h2 a hA.lt hA.lo hA.hi
      rw [hA.may] at this; cases this
    | some b =>
      rw [e2] at h2
      have hL : Least l busy 0 l.length b := h2
      have x1 := hA.least b hL.lt hL.lo hL.hi hL.may
      have x2 := hL.least a hA.lt hA.lo hA.hi hA.may
      rcases Nat.lt_trichotomy a b with h | h | h
      · have := x2.2 h; have := x1.1; omega
      · rw [h]
      · have := x1.2 h; have := x2.1; omega
theorem best_lt (l : List Ses) (busy : List Nat) (m b : Nat) (hm : m ≤ l.length) (h : bestN l busy m = some b) : b < l.length := by
  have := best_spec l busy m hm
  rw [h] at this
  exact Least.lt this
end Go.Proofs.Ytmfglppgpjplfaa
