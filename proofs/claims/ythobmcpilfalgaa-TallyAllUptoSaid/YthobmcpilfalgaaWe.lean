/-
  Walks: lists of texts; the names.
-/
import Derived.Test.YthobmcpilfalgaaWd
namespace Go.Proofs.Ythobmcpilfalgaa
open Go.RowKit Go.Proofs.Ythobmcpilfalgaa.Plan Go.Proofs.Ythobmcpilfalgaa.Eager
set_option maxHeartbeats 1000000
set_option maxRecDepth 20000
set_option linter.unusedVariables false
set_option linter.unusedSimpArgs false

def str1 (s : ByteArray) : List Value := [.string s]
theorem el27 : Elem Try.prog 27 9 1 16 := Elem.of (.string ⟨#[]⟩) rfl (by kernel_rfl) rfl (by omega)
abbrev RStr := Rws str1
theorem RowsOf.str {w : World} {oa : Option Addr} {n : Nat} {l : List ByteArray} (h : RowsOf str1 w oa n l) {i : Nat} (hi : i < l.length) :
    ∃ b o, oa = some ⟨b, o, none⟩ ∧ b < w.heap.size ∧ w.cell? ⟨b, o + i, none⟩ = some (.string l[i]) := by
  obtain ⟨b, o, e, hlt, hc⟩ := h.elem (k := 1) (fun _ => rfl) (by omega) hi
  have := hc 0 (by omega)
  rw [Nat.mul_one] at this
  exact ⟨b, o, e, hlt, this⟩

theorem list_ne {α : Type} {a b : List α} {k : Nat} (h1 : k < a.length) (h2 : k < b.length) (h : a[k] ≠ b[k]) : a ≠ b := by
  rintro rfl; exact h rfl
theorem take_eq {α : Type} {a b : List α} {k : Nat} (h1 : k < a.length) (h2 : k < b.length) (h : a[k] = b[k]) (ht : a.take k = b.take k) : a.take (k + 1) = b.take (k + 1) := by
  rw [List.take_succ_eq_append_getElem h1, List.take_succ_eq_append_getElem h2, ht, h]

instance memDec {α : Type} [DecidableEq α] (x : α) (l : List α) : Decidable (x ∈ l) := decidable_of_iff (l.any (fun y => decide (y = x)) = true) (by simp)
def addKey {α : Type} [DecidableEq α] (ks : List α) (x : α) : List α := if x ∈ ks then ks else ks ++ [x]
/-- what stands first, of so many -/
def firsts {α : Type} [DecidableEq α] (l : List α) : List α := l.foldl addKey []
theorem firsts_succ {α : Type} [DecidableEq α] (l : List α) {k : Nat} (h : k < l.length) : firsts (l.take (k + 1)) = addKey (firsts (l.take k)) l[k] := by
  unfold firsts; rw [List.take_succ_eq_append_getElem h, List.foldl_append]; rfl
theorem addKey_len {α : Type} [DecidableEq α] (ks : List α) (x : α) : (addKey ks x).length ≤ ks.length + 1 := by unfold addKey; split <;> simp
theorem firsts_len' {α : Type} [DecidableEq α] : ∀ (l : List α) (ks : List α), (l.foldl addKey ks).length ≤ ks.length + l.length
  | [], ks => by simp
  | r :: l, ks => by have h1 := firsts_len' l (addKey ks r); have h2 := addKey_len ks r; simp only [List.foldl_cons, List.length_cons]; omega
theorem firsts_len {α : Type} [DecidableEq α] (l : List α) : (firsts l).length ≤ l.length := by have := firsts_len' l []; simpa [firsts] using this
theorem mem_addKey {α : Type} [DecidableEq α] {ks : List α} {x y : α} : y ∈ addKey ks x ↔ y ∈ ks ∨ y = x := by
  unfold addKey
  split
  · rename_i h
    exact ⟨.inl, fun h' => h'.elim id (fun e => e ▸ h)⟩
  · simp
theorem mem_firsts' {α : Type} [DecidableEq α] : ∀ (l : List α) (ks : List α) (y : α), y ∈ l.foldl addKey ks ↔ y ∈ ks ∨ y ∈ l
  | [], ks, y => by simp
  | r :: l, ks, y => by
    rw [List.foldl_cons, mem_firsts' l, mem_addKey, List.mem_cons]
    constructor
    · rintro ((h | h) | h)
      · exact .inl h
      · exact .inr (.inl h)
      · exact .inr (.inr h)
    · rintro (h | h | h)
      · exact .inl (.inl h)
      · exact .inl (.inr h)
      · exact .inr h
theorem mem_firsts {α : Type} [DecidableEq α] (l : List α) (y : α) : y ∈ firsts l ↔ y ∈ l := by
  unfold firsts; rw [mem_firsts']; simp
theorem str_oneCells (l : List ByteArray) : ∀ u ∈ l.flatMap str1, u.oneCell' = true := by
  intro u hu
  obtain ⟨p, -, hp⟩ := List.mem_flatMap.1 hu
  simp [str1] at hp
  subst hp; rfl
def frms (l : List Pk) : List ByteArray := l.map Pk.frm
def namesOf (l : List Pk) : List ByteArray := firsts (frms l)
theorem names_succ (l : List Pk) {k : Nat} (h : k < l.length) : namesOf (l.take (k + 1)) = addKey (namesOf (l.take k)) l[k].frm := by
  have := firsts_succ (frms l) (k := k) (by simpa [frms] using h)
  unfold namesOf
  simp only [frms, List.map_take] at this ⊢
  rw [this]; simp
theorem names_len (l : List Pk) : (namesOf l).length ≤ l.length := by have := firsts_len (frms l); simpa [frms, namesOf] using this

theorem same15 (a b : List ByteArray) (w : World) (o1 o2 : Option Addr) (n1 n2 c1 c2 : Nat) (h1 : RStr w o1 n1 c1 a) (h2 : RStr w o2 n2 c2 b) :
    Calls Try.prog 15 #[.slice o1 n1 c1, .slice o2 n2 c2] w fun r w' => r = .returned (.bool (decide (a = b))) ∧ Below w.heap.size w w' := by
  obtain rfl : n1 = a.length := h1.rows.len
  obtain rfl : n2 = b.length := h2.rows.len
  have H1 := Lib.hid h1; have H2 := Lib.hid h2; clear h1 h2
  by_cases hlen : a.length = b.length
  · have hlen' : (a.length : Int) = (b.length : Int) := by omega
    have HLEN := Lib.hid hlen
    go_enter Try.func15, Try.ntmps15
    go_wp2
    clear hlen hlen'
    go_loopw [5] (fun u wr => ∃ i : Nat, i ≤ a.length ∧ u = .int .i64 i ∧ Hid (a.take i = b.take i) ∧ Hid (Below w.heap.size w wr)) (fun u _ => a.length - (intOf u).toNat)
    case atStart => exact ⟨0, by omega, rfl, Lib.hid rfl, by (with_reducible try refine Lib.hid ?_); (repeat (with_reducible first | assumption | exact Below.refl _ _ | apply Below.drew | apply Below.drewN' | apply Below.setCell | apply Below.alloc)) <;> (try simp [length_fillTo, length_turnTo]) <;> (try omega)⟩
    case round =>
      obtain ⟨i, hk, rfl, hS, hbel⟩ := hrel
      by_cases hlt : i < a.length
      · have hlt2 : i < b.length := by have := HLEN.out; omega
        have hi1 : (i : Int) < (a.length : Int) := by omega
        have hi2 : (i : Int) < (b.length : Int) := by omega
        have rk : IntKind.i64.wrap ((i : Int) + 1) = ((i + 1 : Nat) : Int) := by
          have h1 := H1.out.le; have h2 := H1.out.cap
          simp only [maxLen] at h2
          rw [IntKind.wrap_i64]; omega
        obtain ⟨b1, p1, rfl, hb1, e0⟩ := (H1.out.rows.below hbel.out).str hlt
        obtain ⟨b2, p2, rfl, hb2, d0⟩ := (H2.out.rows.below hbel.out).str hlt2
        have HN : Hid (a[i] ≠ b[i] → decide (a = b) = false) := fun h => decide_eq_false (list_ne hlt hlt2 h)
        have HT : Hid (a[i] = b[i] → a.take (i + 1) = b.take (i + 1)) := fun h => take_eq hlt hlt2 h hS.out
        obtain ⟨q1, hq1'⟩ : ∃ q, a[i] = q := ⟨_, rfl⟩
        obtain ⟨q2, hq2'⟩ : ∃ q, b[i] = q := ⟨_, rfl⟩
        rw [hq1'] at e0 HN HT; rw [hq2'] at d0 HN HT
        clear hq1' hq2'
        by_cases hq : q1 = q2
        · subst hq
          have HT3 := Lib.hid (HT.out rfl)
          clear HT HN
          go_wp2
          refine wp_region_plan none [] [] (.take 0 (.take 1 (.take 2 (.take 3 (.take 4 (.take 5 (.take 6 (.take 7 (.take 8 .done))))))))) (by kernel_rfl) (by kernel_rfl) (fun _ _ dd _ _ h => by cases dd <;> exact h) ?_
          intro W0 hW0
          have f0 := cell_later e0 (below_drew wr)
          have g0 := cell_later d0 (below_drew wr)
          have hbW := hbel.out.drew
          rw [← hW0] at hbW f0 g0
          clear hW0 e0 d0
          (refine pl_take (d := 17) (v := ?_) rfl rfl rfl ?_ ?_; rotate_left; (focus ((intro w' hb0 hw'; go_simp) <;> with_reducible rfl)); simp only [Act.put, List.setIfInBounds_toArray, List.set_cons_zero, List.set_cons_succ])
          (refine pl_take (d := 18) (v := ?_) rfl rfl rfl ?_ ?_; rotate_left; (focus ((intro w' hb0 hw'; go_simp) <;> with_reducible rfl)); simp only [Act.put, List.setIfInBounds_toArray, List.set_cons_zero, List.set_cons_succ])
          (refine pl_take (d := 19) (v := ?_) rfl rfl rfl ?_ ?_; rotate_left; (focus ((intro w' hb0 hw'; go_simp) <;> with_reducible rfl)); simp only [Act.put, List.setIfInBounds_toArray, List.set_cons_zero, List.set_cons_succ])
          (refine pl_take (d := 20) (v := ?_) rfl rfl rfl ?_ ?_; rotate_left; (focus ((intro w' hb0 hw'; have c0 := cell_later f0 hw'; go_simp) <;> with_reducible rfl)); simp only [Act.put, List.setIfInBounds_toArray, List.set_cons_zero, List.set_cons_succ])
          (refine pl_take (d := 21) (v := ?_) rfl rfl rfl ?_ ?_; rotate_left; (focus ((intro w' hb0 hw'; go_simp) <;> with_reducible rfl)); simp only [Act.put, List.setIfInBounds_toArray, List.set_cons_zero, List.set_cons_succ])
          (refine pl_take (d := 22) (v := ?_) rfl rfl rfl ?_ ?_; rotate_left; (focus ((intro w' hb0 hw'; go_simp) <;> with_reducible rfl)); simp only [Act.put, List.setIfInBounds_toArray, List.set_cons_zero, List.set_cons_succ])
          (refine pl_take (d := 23) (v := ?_) rfl rfl rfl ?_ ?_; rotate_left; (focus ((intro w' hb0 hw'; go_simp) <;> with_reducible rfl)); simp only [Act.put, List.setIfInBounds_toArray, List.set_cons_zero, List.set_cons_succ])
          (refine pl_take (d := 24) (v := ?_) rfl rfl rfl ?_ ?_; rotate_left; (focus ((intro w' hb0 hw'; have c0 := cell_later g0 hw'; go_simp) <;> with_reducible rfl)); simp only [Act.put, List.setIfInBounds_toArray, List.set_cons_zero, List.set_cons_succ])
          refine pl_take (d := 25) (v := .bool false) rfl rfl rfl ?_ ?_
          · intro w' hb0 hw'
            go_simp
          simp only [Act.put, List.setIfInBounds_toArray, List.set_cons_zero, List.set_cons_succ]
          refine pl_end ?_
          go_wp2
          go_roundw
          case measure => (simp [intOf]) <;> omega
          case rel => exact ⟨i + 1, by omega, rfl, HT3, Lib.hid hbW⟩
        · have HN3 := Lib.hid (HN.out hq)
          clear HN HT
          go_wp2
          refine wp_region_plan none [] [] (.take 0 (.take 1 (.take 2 (.take 3 (.take 4 (.take 5 (.take 6 (.take 7 (.take 8 .done))))))))) (by kernel_rfl) (by kernel_rfl) (fun _ _ dd _ _ h => by cases dd <;> exact h) ?_
          intro W0 hW0
          have f0 := cell_later e0 (below_drew wr)
          have g0 := cell_later d0 (below_drew wr)
          have hbW := hbel.out.drew
          rw [← hW0] at hbW f0 g0
          clear hW0 e0 d0
          (refine pl_take (d := 17) (v := ?_) rfl rfl rfl ?_ ?_; rotate_left; (focus ((intro w' hb0 hw'; go_simp) <;> with_reducible rfl)); simp only [Act.put, List.setIfInBounds_toArray, List.set_cons_zero, List.set_cons_succ])
          (refine pl_take (d := 18) (v := ?_) rfl rfl rfl ?_ ?_; rotate_left; (focus ((intro w' hb0 hw'; go_simp) <;> with_reducible rfl)); simp only [Act.put, List.setIfInBounds_toArray, List.set_cons_zero, List.set_cons_succ])
          (refine pl_take (d := 19) (v := ?_) rfl rfl rfl ?_ ?_; rotate_left; (focus ((intro w' hb0 hw'; go_simp) <;> with_reducible rfl)); simp only [Act.put, List.setIfInBounds_toArray, List.set_cons_zero, List.set_cons_succ])
          (refine pl_take (d := 20) (v := ?_) rfl rfl rfl ?_ ?_; rotate_left; (focus ((intro w' hb0 hw'; have c0 := cell_later f0 hw'; go_simp) <;> with_reducible rfl)); simp only [Act.put, List.setIfInBounds_toArray, List.set_cons_zero, List.set_cons_succ])
          (refine pl_take (d := 21) (v := ?_) rfl rfl rfl ?_ ?_; rotate_left; (focus ((intro w' hb0 hw'; go_simp) <;> with_reducible rfl)); simp only [Act.put, List.setIfInBounds_toArray, List.set_cons_zero, List.set_cons_succ])
          (refine pl_take (d := 22) (v := ?_) rfl rfl rfl ?_ ?_; rotate_left; (focus ((intro w' hb0 hw'; go_simp) <;> with_reducible rfl)); simp only [Act.put, List.setIfInBounds_toArray, List.set_cons_zero, List.set_cons_succ])
          (refine pl_take (d := 23) (v := ?_) rfl rfl rfl ?_ ?_; rotate_left; (focus ((intro w' hb0 hw'; go_simp) <;> with_reducible rfl)); simp only [Act.put, List.setIfInBounds_toArray, List.set_cons_zero, List.set_cons_succ])
          (refine pl_take (d := 24) (v := ?_) rfl rfl rfl ?_ ?_; rotate_left; (focus ((intro w' hb0 hw'; have c0 := cell_later g0 hw'; go_simp) <;> with_reducible rfl)); simp only [Act.put, List.setIfInBounds_toArray, List.set_cons_zero, List.set_cons_succ])
          refine pl_take (d := 25) (v := .bool true) rfl rfl rfl ?_ ?_
          · intro w' hb0 hw'
            have hne := strne hq
            go_simp
          simp only [Act.put, List.setIfInBounds_toArray, List.set_cons_zero, List.set_cons_succ]
          refine pl_end ?_
          go_wp2
          refine bodyPost_ret (v := .bool false) (by simp [results, Try.results15, go_sem]) rfl ⟨by rw [HN3.out], hbW⟩
      · obtain rfl : i = a.length := by omega
        have HT : Hid (decide (a = b) = true) := by
          have h := hS.out
          rw [List.take_length, HLEN.out, List.take_length] at h
          exact decide_eq_true h
        have hb1 := hbel.out
        clear hS hbel
        go_wp2
        refine bodyPost_ret (v := .bool true) (by simp [results, Try.results15, go_sem]) rfl ⟨by rw [HT.out], hb1⟩
  · have hlen' : ¬ (a.length : Int) = (b.length : Int) := by omega
    have HN : Hid (decide (a = b) = false) := decide_eq_false (fun e => hlen (congrArg List.length e))
    clear hlen
    go_enter Try.func15, Try.ntmps15
    go_wp2
    refine bodyPost_ret (v := .bool false) (by simp [results, Try.results15, go_sem]) rfl ⟨by rw [HN.out], Below.refl _ _⟩


theorem index36 (l : List ByteArray) (x : ByteArray) (w : World) (oa : Option Addr) (n c : Nat) (h : RStr w oa n c l) :
    Calls Try.prog 36 #[.slice oa n c, .string x] w fun r w' => (∃ i : Int, r = .returned (.int .i64 i) ∧ (decide (0 ≤ i) = decide (x ∈ l))) ∧ Below w.heap.size w w' := by
  obtain rfl : n = l.length := h.rows.len
  have H := Lib.hid h; clear h
  go_enter Try.func36, Try.ntmps36
  go_wp2
  go_loopw [5, 8] (fun _ i wr => ∃ k : Nat, k ≤ l.length ∧ i = .int .i64 k ∧ Hid (∀ j (h : j < l.length), j < k → l[j] ≠ x) ∧ Hid (Below w.heap.size w wr)) (fun _ i _ => l.length - (intOf i).toNat)
  case atStart => exact ⟨0, by omega, rfl, Lib.hid (fun j _ h => by omega), by (with_reducible try refine Lib.hid ?_); (repeat (with_reducible first | assumption | exact Below.refl _ _ | apply Below.drew | apply Below.drewN' | apply Below.setCell | apply Below.alloc)) <;> (try simp [length_fillTo, length_turnTo]) <;> (try omega)⟩
  case round =>
    obtain ⟨k, hk, rfl, hS, hbel⟩ := hrel
    by_cases hlt : k < l.length
    · have hi1 : (k : Int) < (l.length : Int) := by omega
      have rk : IntKind.i64.wrap ((k : Int) + 1) = ((k + 1 : Nat) : Int) := by
        have h1 := H.out.le; have h2 := H.out.cap
        simp only [maxLen] at h2
        rw [IntKind.wrap_i64]; omega
      obtain ⟨b1, p1, rfl, hb1, e0⟩ := (H.out.rows.below hbel.out).str hlt
      have HM : Hid (l[k] ∈ l) := List.getElem_mem hlt
      have HS2 : Hid (l[k] ≠ x → ∀ j (h : j < l.length), j < k + 1 → l[j] ≠ x) := by
        intro ht j hj hjk
        by_cases e : j = k
        · subst e; exact ht
        · exact hS.out j hj (by omega)
      obtain ⟨t, ht'⟩ : ∃ t, l[k] = t := ⟨_, rfl⟩
      rw [ht'] at e0 HM HS2
      clear ht'
      by_cases ht : t = x
      · subst ht
        clear hS HS2
        go_wp2
        refine bodyPost_ret (v := .int .i64 (k : Int)) (by simp [results, Try.results36, go_sem]) rfl ⟨⟨_, rfl, by rw [decide_eq_true HM.out]; exact decide_eq_true (by omega)⟩, hbel.out⟩
      · have hne := strne (fun e => ht e.symm)
        have HS3 := Lib.hid (HS2.out ht)
        clear hS HS2
        go_wp2
        go_roundw
        case measure => (simp [intOf]) <;> omega
        case rel => exact ⟨k + 1, by omega, rfl, HS3, hbel⟩
    · obtain rfl : k = l.length := by omega
      have HF : Hid (x ∉ l) := fun hx => by
        obtain ⟨j, hj, e⟩ := List.getElem_of_mem hx
        exact hS.out j hj hj e
      have hb1 := hbel.out
      clear hS
      go_wp2
      refine bodyPost_ret (v := .int .i64 (-1)) (by simp [results, Try.results36, go_sem]) rfl ⟨⟨_, rfl, by rw [decide_eq_false HF.out]; rfl⟩, hb1⟩

theorem contains29 (l : List ByteArray) (x : ByteArray) (w : World) (oa : Option Addr) (n c : Nat) (h : RStr w oa n c l) :
    Calls Try.prog 29 #[.slice oa n c, .string x] w fun r w' => r = .returned (.bool (decide (x ∈ l))) ∧ Below w.heap.size w w' := by
  go_enter Try.func29, Try.ntmps29
  go_wp2_with fail
  refine (index36 l x w oa n c h).mono ?_
  rintro r w1 ⟨⟨i, rfl, hi⟩, hb⟩
  have HI := Lib.hid hi; have HB := Lib.hid hb; clear hi hb
  go_wp2
  refine bodyPost_ret (v := .bool (decide (0 ≤ i))) (by simp [results, Try.results29, go_sem]) rfl ⟨by rw [HI.out], HB.out⟩

theorem names16 (l : List Pk) (w : World) (oa : Option Addr) (n c : Nat) (h : Pks w oa n c l) (hl : l.length ≤ 1000) :
    Calls Try.prog 16 #[.slice oa n c] w fun r w' => (∃ o' c', r = .returned (.slice o' (namesOf l).length c') ∧ RStr w' o' (namesOf l).length c' (namesOf l)) ∧ Below w.heap.size w w' := by
  obtain rfl : n = l.length := h.rows.len
  have H := Lib.hid h; have HL := Lib.hid hl; clear h hl
  go_enter Try.func16, Try.ntmps16
  go_wp2
  go_loopw [3, 5, 8] (fun v _ i wr => ∃ k : Nat, k ≤ l.length ∧ i = .int .i64 k ∧ Hid (Own wr w.heap.size 9 1 v (namesOf (l.take k)).length ((namesOf (l.take k)).flatMap str1)) ∧ Hid (Below w.heap.size w wr)) (fun _ _ i _ => l.length - (intOf i).toNat)
  case atStart => exact ⟨0, by omega, rfl, Lib.hid (Own.nil _ _ _ _), by (with_reducible try refine Lib.hid ?_); (repeat (with_reducible first | assumption | exact Below.refl _ _ | apply Below.drew | apply Below.drewN' | apply Below.setCell | apply Below.alloc)) <;> (try simp [length_fillTo, length_turnTo]) <;> (try omega)⟩
  case round =>
    obtain ⟨k, hk, rfl, hO, hbel⟩ := hrel
    by_cases hlt : k < l.length
    · have hi1 : (k : Int) < (l.length : Int) := by omega
      have rk : IntKind.i64.wrap ((k : Int) + 1) = ((k + 1 : Nat) : Int) := by
        have h1 := HL.out
        rw [IntKind.wrap_i64]; omega
      have hlen : (namesOf (l.take k)).length ≤ 1000 := by
        have h1 := names_len (l.take k)
        have h2 := HL.out
        simp only [List.length_take] at h1
        omega
      have HLEN := Lib.hid hlen; clear hlen
      have HT := Lib.hid (names_succ l hlt)
      obtain ⟨b1, p1, rfl, hb1, e0, e1, e2⟩ := (H.out.rows.below hbel.out).pk hlt
      obtain ⟨q1, hq1'⟩ : ∃ q, l[k] = q := ⟨_, rfl⟩
      rw [hq1'] at e0 e1 e2 HT
      clear hq1'
      obtain ⟨key, tt, po, pn, pc, pb⟩ := q1
      simp only at e0 e1 e2 HT
      obtain ⟨L, hL⟩ : ∃ L, namesOf (l.take k) = L := ⟨_, rfl⟩
      rw [hL] at hO HT HLEN
      clear hL
      have hal : Below wr.heap.size wr (wr.alloc (.cells (Pk.cells ⟨key, tt, po, pn, pc, pb⟩).toArray 51)) := (Below.refl _ _).alloc (Nat.le_refl _) _
      have hX : Blk (wr.alloc (.cells (Pk.cells ⟨key, tt, po, pn, pc, pb⟩).toArray 51)) wr.heap.size (Pk.cells ⟨key, tt, po, pn, pc, pb⟩) := Blk.new' rfl
      have hO1 := hO.out.later hal
      have hb1' := below_step hbel.out hal
      obtain ⟨o', c', rfl, hR⟩ := Own.rws hO1 rfl
      have HR := Lib.hid hR; have HO1 := Lib.hid hO1; have HB1 := Lib.hid hb1'; have HX := Lib.hid hX
      clear hR hO1 hb1' hX hal hO hbel
      go_wp2_with (first | fail)
      refine (contains29 L key _ _ _ _ HR.out).mono ?_
      rintro r w2 ⟨rfl, hb2⟩
      have hO2 := HO1.out.later hb2
      have hB2 := below_step HB1.out hb2
      have hX2 := HX.out.later hb2
      have x3 := hX2.at' 0 (by simp [Pk.cells])
      simp only [Pk.cells, List.getElem_cons_zero, List.getElem_cons_succ] at x3
      have hx2 := hX2.lt
      have HO2 := Lib.hid hO2; have HB2 := Lib.hid hB2
      clear hO2 hB2 hb2 HX HO1 HB1 HR hX2 e0 e1 e2
      by_cases hm : key ∈ L
      · have HT2 : Hid (namesOf (l.take (k + 1)) = L) := by show _ = _; rw [HT.out]; unfold addKey; rw [if_pos hm]
        rw [decide_eq_true hm]
        clear HT hm
        go_wp2
        go_roundw
        case measure => (simp [intOf]) <;> omega
        case rel => exact ⟨k + 1, by omega, rfl, Lib.hid (by rw [HT2.out]; exact HO2.out), HB2⟩
      · have HT2 : Hid (namesOf (l.take (k + 1)) = L ++ [key]) := by show _ = _; rw [HT.out]; unfold addKey; rw [if_neg hm]
        rw [decide_eq_false hm]
        clear HT hm
        have hN3 : Blk (w2.alloc (.cells [Value.string key].toArray 9)) w2.heap.size [Value.string key] := Blk.new' rfl
        have hal2 : Below w2.heap.size w2 (w2.alloc (.cells [Value.string key].toArray 9)) := (Below.refl _ _).alloc (Nat.le_refl _) _
        have hO3 := HO2.out.later hal2
        have hB3 := below_step HB2.out hal2
        have HN3 := Lib.hid hN3; have HO3 := Lib.hid hO3; have HB3 := Lib.hid hB3
        clear hN3 hal2 hO3 hB3 HO2 HB2
        go_wp2_with (refine stop_append rfl ?_)
        have hlen := HLEN.out
        refine ⟨wpList_app el27 rfl (by rfl) (by rfl) HO3.out (by rfl) (m := 1) rfl HN3.out.cells (by simp [Value.oneCell']) (by simp [maxLen]; omega) (by omega) HB3.out.size ?_⟩
        intro v4 W4 hO4 hg4
        have hb4 := HO3.out.below hg4 HB3.out (Nat.le_refl _) HB3.out.size
        have HO4 := Lib.hid hO4; have HB4 := Lib.hid hb4
        clear hO4 hg4 hb4 hlen HO3 HN3 HB3 x3
        go_wp2
        go_roundw
        case measure => (simp [intOf]) <;> omega
        case rel =>
          refine ⟨k + 1, by omega, rfl, Lib.hid ?_, HB4⟩
          rw [HT2.out]
          simpa [str1] using HO4.out
    · obtain rfl : k = l.length := by omega
      rw [List.take_length] at hO
      obtain ⟨o', c', rfl, hR⟩ := Own.rws hO.out rfl
      have HR := Lib.hid hR; have HB := hbel; clear hR hbel hO
      go_wp2
      refine bodyPost_ret (v := .slice o' (namesOf l).length c') (by simp [results, Try.results16, go_sem]) rfl ⟨⟨o', c', rfl, HR.out⟩, HB.out⟩

end Go.Proofs.Ythobmcpilfalgaa
