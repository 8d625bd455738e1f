/-
  Walk: the first packet for a name, by the program and by the document.
-/
import Derived.Test.YthnfbbnpjfjaiaaWd
namespace Go.Proofs.Ythnfbbnpjfjaiaa
open Go.RowKit
set_option maxHeartbeats 1000000
set_option maxRecDepth 20000
set_option linter.unusedVariables false
set_option linter.unusedSimpArgs false

theorem strbeq (a b : ByteArray) : (a.toList == b.toList) = decide (a = b) := by
  by_cases h : a = b
  · subst h; simp
  · rw [strne h]; simp [h]
/-- where the first packet for a name stands -/
def forD : List ByteArray → ByteArray → Nat → Int
  | [], _, _ => -1
  | t :: D, x, i => if t = x then (i : Int) else forD D x (i + 1)

theorem forD_at (x : ByteArray) : ∀ (T : List ByteArray) (i k : Nat) (hk : k < T.length), (∀ j (h : j < T.length), j < k → T[j] ≠ x) → T[k] = x → forD T x i = ((i + k : Nat) : Int)
  | t :: T, i, 0, _, _, h => by simp [forD, show t = x from h]
  | t :: T, i, k + 1, hk, hne, h => by
    have h0 : t ≠ x := hne 0 (by simp) (by omega)
    rw [forD, if_neg h0, forD_at x T (i + 1) k (by simpa using hk) (fun j hj hjk => hne (j + 1) (by simpa using hj) (by omega)) h]
    omega
theorem forD_none (x : ByteArray) : ∀ (T : List ByteArray) (i : Nat), (∀ j (h : j < T.length), T[j] ≠ x) → forD T x i = -1
  | [], _, _ => rfl
  | t :: T, i, h => by
    have h0 : t ≠ x := h 0 (by simp)
    rw [forD, if_neg h0]
    exact forD_none x T (i + 1) (fun j hj => h (j + 1) (by simpa using hj))

theorem refFor18 (l : List Pk) (x : ByteArray) (w : World) (oa : Option Addr) (n c : Nat) (h : Pks w oa n c l) :
    Calls Try.prog 18 #[.slice oa n c, .string x] w fun r w' => r = .returned (.int .i64 (forD (l.map Pk.to) x 0)) ∧ Below w.heap.size w w' := by
  obtain rfl : n = l.length := h.rows.len
  have H := Lib.hid h; clear h
  go_enter Try.func18, Try.ntmps18
  go_wp2
  go_loopw [5] (fun i wr => ∃ k : Nat, k ≤ l.length ∧ i = .int .i64 k ∧ Hid (∀ j (h : j < (l.map Pk.to).length), j < k → (l.map Pk.to)[j] ≠ x) ∧ Hid (Below w.heap.size w wr)) (fun i _ => l.length - (intOf i).toNat)
  case atStart => exact ⟨0, by omega, rfl, Lib.hid (fun j _ h => by omega), by (with_reducible try refine Lib.hid ?_); (repeat (with_reducible first | assumption | exact Below.refl _ _ | apply Below.drew | apply Below.drewN' | apply Below.setCell | apply Below.alloc)) <;> (try simp [length_fillTo, length_turnTo]) <;> (try omega)⟩
  case round =>
    obtain ⟨k, hk, rfl, hS, hbel⟩ := hrel
    by_cases hlt : k < l.length
    · have hi1 : (k : Int) < (l.length : Int) := by omega
      have rk : IntKind.i64.wrap ((k : Int) + 1) = ((k + 1 : Nat) : Int) := by
        have h1 := H.out.le; have h2 := H.out.cap
        simp only [maxLen] at h2
        rw [IntKind.wrap_i64]; omega
      obtain ⟨b1, p1, rfl, hb1, e10, e11, e12⟩ := (H.out.rows.below hbel.out).pk hlt
      have hto : (l.map Pk.to)[k]'(by simpa using hlt) = l[k].to := by simp
      obtain ⟨q1, hq1'⟩ : ∃ q, l[k] = q := ⟨_, rfl⟩
      rw [hq1'] at e10 e11 e12 hto
      clear hq1'
      obtain ⟨f, t, po, pn, pc, pb⟩ := q1
      simp only at e10 e11 e12 hto
      by_cases ht : t = x
      · have hF := forD_at x (l.map Pk.to) 0 k (by simpa using hlt) (fun j hj hjk => hS.out j hj hjk) (hto.trans ht)
        rw [Nat.zero_add] at hF
        have HF := Lib.hid hF
        subst ht
        clear hF hto hS
        go_wp2
        refine bodyPost_ret (v := .int .i64 (k : Int)) (by simp [results, Try.results18, go_sem]) rfl ⟨by rw [HF.out], hbel.out⟩
      · have hne := strne ht
        have hS2 : ∀ j (h : j < (l.map Pk.to).length), j < k + 1 → (l.map Pk.to)[j] ≠ x := by
          intro j hj hjk
          by_cases e : j = k
          · subst e; rw [hto]; exact ht
          · exact hS.out j hj (by omega)
        have HS2 := Lib.hid hS2
        clear hto hS hS2
        go_wp2
        go_roundw
        case measure => (simp [intOf]) <;> omega
        case rel => exact ⟨k + 1, by omega, rfl, HS2, hbel⟩
    · obtain rfl : k = l.length := by omega
      have HF := Lib.hid (forD_none x (l.map Pk.to) 0 (fun j hj => hS.out j hj (by simpa using hj)))
      have hb1 := hbel.out
      clear hS
      go_wp2
      refine bodyPost_ret (v := .int .i64 (-1)) (by simp [results, Try.results18, go_sem]) rfl ⟨by rw [HF.out], hb1⟩

theorem closure23 (p : Pk) (x : ByteArray) (B : Nat) (w : World) (hc : w.cell? ⟨B, 0, none⟩ = some (.string x)) :
    Calls Try.prog 23 #[.agg #[.string p.frm, .string p.to, .slice p.oa p.n p.c], .pointer (some ⟨B, 0, none⟩)] w fun r w' => r = .returned (.bool (decide (p.to = x))) ∧ Below w.heap.size w w' := by
  obtain ⟨f, t, po, pn, pc, pb⟩ := p
  have hlt := World.block_lt_of_cell? w ⟨B, 0, none⟩ hc
  have hb : Below w.heap.size w (w.alloc (.cells #[Value.string f, .string t, .slice po pn pc] 25)) := (Below.refl _ _).alloc (Nat.le_refl _) _
  have hc2 := cell_later hc hb
  have HB := Lib.hid hb; clear hb
  simp only
  go_enter Try.func23, Try.ntmps23
  go_wp2
  refine bodyPost_ret (v := .bool (decide (t = x))) (by simp [results, Try.results23, go_sem, strbeq]) rfl ⟨rfl, HB.out⟩

theorem indexFunc22 (l : List Pk) (x : ByteArray) (B : Nat) (w : World) (oa : Option Addr) (n c : Nat) (h : Pks w oa n c l) (hc : w.cell? ⟨B, 0, none⟩ = some (.string x)) :
    Calls Try.prog 22 #[.slice oa n c, .func (.func 23) #[] #[.pointer (some ⟨B, 0, none⟩)]] w fun r w' => r = .returned (.int .i64 (forD (l.map Pk.to) x 0)) ∧ Below w.heap.size w w' := by
  obtain rfl : n = l.length := h.rows.len
  have H := Lib.hid h; have HC := Lib.hid hc; clear h hc
  go_enter Try.func22, Try.ntmps22
  go_wp2
  go_loopw [5, 8] (fun u i wr => ∃ k : Nat, k ≤ l.length ∧ i = .int .i64 k ∧ Hid (∀ j (h : j < (l.map Pk.to).length), j < k → (l.map Pk.to)[j] ≠ x) ∧ Hid (Below w.heap.size w wr)) (fun _ i _ => l.length - (intOf i).toNat)
  case atStart => exact ⟨0, by omega, rfl, Lib.hid (fun j _ h => by omega), by (with_reducible try refine Lib.hid ?_); (repeat (with_reducible first | assumption | exact Below.refl _ _ | apply Below.drew | apply Below.drewN' | apply Below.setCell | apply Below.alloc)) <;> (try simp [length_fillTo, length_turnTo]) <;> (try omega)⟩
  case round =>
    obtain ⟨k, hk, rfl, hS, hbel⟩ := hrel
    by_cases hlt : k < l.length
    · have hi1 : (k : Int) < (l.length : Int) := by omega
      have rk : IntKind.i64.wrap ((k : Int) + 1) = ((k + 1 : Nat) : Int) := by
        have h1 := H.out.le; have h2 := H.out.cap
        simp only [maxLen] at h2
        rw [IntKind.wrap_i64]; omega
      obtain ⟨b1, p1, rfl, hb1, e10, e11, e12⟩ := (H.out.rows.below hbel.out).pk hlt
      have hto : (l.map Pk.to)[k]'(by simpa using hlt) = l[k].to := by simp
      obtain ⟨q1, hq1'⟩ : ∃ q, l[k] = q := ⟨_, rfl⟩
      rw [hq1'] at e10 e11 e12 hto
      clear hq1'
      obtain ⟨f, t, po, pn, pc, pb⟩ := q1
      simp only at e10 e11 e12 hto
      have hcx := cell_later HC.out hbel.out
      have HCX := Lib.hid hcx; clear hcx
      go_wp2_with fail
      refine (closure23 ⟨f, t, po, pn, pc, pb⟩ x B _ HCX.out).mono ?_
      rintro r W2 ⟨rfl, hb2⟩
      have hbb := below_step hbel.out hb2
      have HBB := Lib.hid hbb; clear hbb hb2
      simp only
      by_cases ht : t = x
      · have hF := forD_at x (l.map Pk.to) 0 k (by simpa using hlt) (fun j hj hjk => hS.out j hj hjk) (hto.trans ht)
        rw [Nat.zero_add] at hF
        have HF := Lib.hid hF
        subst ht
        clear hF hto hS e10 e11 e12
        go_wp2
        refine bodyPost_ret (v := .int .i64 (k : Int)) (by simp [results, Try.results22, go_sem]) rfl ⟨by rw [HF.out], HBB.out⟩
      · have hS2 : ∀ j (h : j < (l.map Pk.to).length), j < k + 1 → (l.map Pk.to)[j] ≠ x := by
          intro j hj hjk
          by_cases e : j = k
          · subst e; rw [hto]; exact ht
          · exact hS.out j hj (by omega)
        have HS2 := Lib.hid hS2
        clear hto hS hS2 e10 e11 e12
        have hd : decide (t = x) = false := decide_eq_false ht
        rw [hd]
        go_wp2
        go_roundw
        case measure => (simp [intOf]) <;> omega
        case rel => exact ⟨k + 1, by omega, rfl, HS2, HBB⟩
    · obtain rfl : k = l.length := by omega
      have HF := Lib.hid (forD_none x (l.map Pk.to) 0 (fun j hj => hS.out j hj (by simpa using hj)))
      have hb1 := hbel.out
      clear hS
      go_wp2
      refine bodyPost_ret (v := .int .i64 (-1)) (by simp [results, Try.results22, go_sem]) rfl ⟨by rw [HF.out], hb1⟩

theorem for17 (l : List Pk) (x : ByteArray) (w : World) (oa : Option Addr) (n c : Nat) (h : Pks w oa n c l) :
    Calls Try.prog 17 #[.slice oa n c, .string x] w fun r w' => r = .returned (.int .i64 (forD (l.map Pk.to) x 0)) ∧ Below w.heap.size w w' := by
  have hb : Below w.heap.size w (w.alloc (.cells #[Value.string x] 9)) := (Below.refl _ _).alloc (Nat.le_refl _) _
  have hc := (Blk.new w [Value.string x] 9).at' 0 (by simp)
  have H := Lib.hid h; have HB := Lib.hid hb; have HC := Lib.hid hc
  clear h hb hc
  go_enter Try.func17, Try.ntmps17
  go_wp2_with fail
  refine (indexFunc22 l x w.heap.size _ oa n c (H.out.below HB.out) HC.out).mono ?_
  rintro r W2 ⟨rfl, hb2⟩
  have hbb := below_step HB.out hb2
  have HBB := Lib.hid hbb; clear hbb hb2
  go_wp2
  refine bodyPost_ret (v := .int .i64 _) (by simp [results, Try.results17, go_sem]) rfl ⟨rfl, HBB.out⟩
end Go.Proofs.Ythnfbbnpjfjaiaa
