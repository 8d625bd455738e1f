/-
  The plain law of tallies: sums of parts are sums of all.
-/
import Derived.Test.YthobmcpilfalgaaWl
namespace Go.Proofs.Ythobmcpilfalgaa
open Go.RowKit
set_option maxHeartbeats 1000000
set_option linter.unusedVariables false
set_option linter.unusedSimpArgs false

def S (g : Tal → Int) (l : List Pk) : Int := (l.map fun p => g (oneT p)).sum
def wrapT (h w r s o b : Int) : Tal := ⟨wrap64 h, wrap64 w, wrap64 r, wrap64 s, wrap64 o, wrap64 b⟩
theorem wrap_both (a b : Int) : wrap64 (wrap64 a + wrap64 b) = wrap64 (a + b) := by unfold wrap64; omega
theorem wrap_right (a b : Int) : wrap64 (a + wrap64 b) = wrap64 (a + b) := by unfold wrap64; omega
theorem add_wrap (h w r s o b h' w' r' s' o' b' : Int) : addT (wrapT h w r s o b) (wrapT h' w' r' s' o' b') = wrapT (h + h') (w + w') (r + r') (s + s') (o + o') (b + b') := by
  unfold addT wrapT; simp only [wrap_both]
theorem wrap_t0 : t0 = wrapT 0 0 0 0 0 0 := by unfold t0 wrapT; simp [w0]
theorem add_one (h w r s o b : Int) (t : Tal) : addT (wrapT h w r s o b) t = wrapT (h + t.h) (w + t.w) (r + t.r) (s + t.s) (o + t.o) (b + t.b) := by
  unfold addT wrapT; simp only [wrap_wrap]
theorem fold_wrap : ∀ (l : List Pk) (h w r s o b : Int), l.foldl (fun t p => addT t (oneT p)) (wrapT h w r s o b) = wrapT (h + S Tal.h l) (w + S Tal.w l) (r + S Tal.r l) (s + S Tal.s l) (o + S Tal.o l) (b + S Tal.b l)
  | [], h, w, r, s, o, b => by simp [S]
  | p :: l, h, w, r, s, o, b => by
    rw [List.foldl_cons, add_one, fold_wrap l]
    simp only [S, List.map_cons, List.sum_cons, Int.add_assoc]
theorem tally_wrap (l : List Pk) : tallyOf l = wrapT (S Tal.h l) (S Tal.w l) (S Tal.r l) (S Tal.s l) (S Tal.o l) (S Tal.b l) := by
  unfold tallyOf; rw [wrap_t0, fold_wrap]; simp
theorem S_append (g : Tal → Int) (l k : List Pk) : S g (l ++ k) = S g l + S g k := by unfold S; simp
theorem tally_append (l k : List Pk) : tallyOf (l ++ k) = addT (tallyOf l) (tallyOf k) := by
  rw [tally_wrap l, tally_wrap k, add_wrap, tally_wrap]
  simp only [S_append]

/-- of all names -/
def namesSum (l : List Pk) (ks : List ByteArray) : Tal := ks.foldl (fun t x => addT t (tallyOf (fromL l x))) t0
def SS (g : Tal → Int) (l : List Pk) (ks : List ByteArray) : Int := (ks.map fun x => S g (fromL l x)).sum
theorem names_fold (l : List Pk) : ∀ (ks : List ByteArray) (h w r s o b : Int), ks.foldl (fun t x => addT t (tallyOf (fromL l x))) (wrapT h w r s o b) = wrapT (h + SS Tal.h l ks) (w + SS Tal.w l ks) (r + SS Tal.r l ks) (s + SS Tal.s l ks) (o + SS Tal.o l ks) (b + SS Tal.b l ks)
  | [], h, w, r, s, o, b => by simp [SS]
  | x :: ks, h, w, r, s, o, b => by
    rw [List.foldl_cons, tally_wrap (fromL l x), add_wrap, names_fold l ks]
    simp only [SS, List.map_cons, List.sum_cons, Int.add_assoc]
theorem sum_pick (y : ByteArray) (v : Int) : ∀ ks : List ByteArray, ks.Nodup → (ks.map fun x => if y = x then v else 0).sum = if y ∈ ks then v else 0
  | [], _ => by simp
  | x :: ks, h => by
    obtain ⟨h1, h2⟩ := List.nodup_cons.1 h
    rw [List.map_cons, List.sum_cons, sum_pick y v ks h2]
    by_cases e : y = x
    · subst e; simp [h1]
    · simp [e]
theorem sum_add {α : Type} (f g : α → Int) : ∀ l : List α, (l.map fun x => f x + g x).sum = (l.map f).sum + (l.map g).sum
  | [] => by simp
  | x :: l => by simp only [List.map_cons, List.sum_cons, sum_add f g l]; omega
theorem SS_all (g : Tal → Int) (ks : List ByteArray) (hn : ks.Nodup) : ∀ l : List Pk, (∀ p ∈ l, p.frm ∈ ks) → SS g l ks = S g l
  | [], _ => by
    unfold SS S fromL
    have : (ks.map fun x => ((([] : List Pk).filter fun p => decide (p.frm = x)).map fun p => g (oneT p)).sum) = ks.map fun _ => (0 : Int) := by simp
    rw [this]
    clear this hn
    induction ks with
    | nil => simp
    | cons x ks ih => simpa using ih
  | p :: l, h => by
    have ih := SS_all g ks hn l (fun q hq => h q (by simp [hq]))
    have e : ∀ x, S g (fromL (p :: l) x) = (if p.frm = x then g (oneT p) else 0) + S g (fromL l x) := by
      intro x
      unfold S fromL
      rw [List.filter_cons]
      by_cases hx : p.frm = x <;> simp [hx]
    have e2 : SS g (p :: l) ks = (ks.map fun x => (if p.frm = x then g (oneT p) else 0) + S g (fromL l x)).sum := by
      unfold SS; simp only [e]
    rw [e2, sum_add, sum_pick _ _ _ hn, if_pos (h p (by simp))]
    have e3 : (ks.map fun x => S g (fromL l x)).sum = S g l := ih
    rw [e3]
    simp [S]
theorem addKey_nodup {α : Type} [DecidableEq α] {ks : List α} (x : α) (h : ks.Nodup) : (addKey ks x).Nodup := by
  unfold addKey
  split
  · exact h
  · rename_i hx
    rw [List.nodup_append]
    exact ⟨h, by simp, fun a ha b hb e => by
      have : b = x := by simpa using hb
      subst this; subst e; exact hx ha⟩
theorem firsts_nodup' {α : Type} [DecidableEq α] : ∀ (l : List α) (ks : List α), ks.Nodup → (l.foldl addKey ks).Nodup
  | [], ks, h => h
  | x :: l, ks, h => firsts_nodup' l _ (addKey_nodup x h)
theorem names_all (l : List Pk) : namesSum l (namesOf l) = tallyOf l := by
  have hn : (namesOf l).Nodup := firsts_nodup' _ [] List.nodup_nil
  have hm : ∀ p ∈ l, p.frm ∈ namesOf l := fun p hp => (mem_firsts _ _).2 (List.mem_map.2 ⟨p, hp, rfl⟩)
  unfold namesSum
  rw [wrap_t0, names_fold, tally_wrap]
  simp only [SS_all _ _ hn l hm, Int.zero_add]
theorem kind_one (k : Nat) (n : Int) (h : k ≤ 4) : (kindT k n).h + (kindT k n).w + (kindT k n).r + (kindT k n).s + (kindT k n).o = 1 := by
  rcases (by omega : k = 0 ∨ k = 1 ∨ k = 2 ∨ k = 3 ∨ k = 4) with rfl | rfl | rfl | rfl | rfl <;> simp [kindT]
theorem S_len : ∀ l : List Pk, S Tal.h l + S Tal.w l + S Tal.r l + S Tal.s l + S Tal.o l = l.length
  | [] => by simp [S]
  | p :: l => by
    have ih := S_len l
    have h1 := kind_one (kindOf p.b) p.n (kindOf_le p.b)
    have h2 : (oneT p) = kindT (kindOf p.b) p.n := rfl
    simp only [S, List.map_cons, List.sum_cons, h2, List.length_cons] at ih ⊢
    omega
theorem pack_len (l : List Pk) (h : l.length ≤ 900) : packT (tallyOf l) = l.length := by
  rw [tally_wrap]
  unfold packT wrapT
  simp only [wrap_wrap, wrap_right]
  rw [S_len l, IntWalk.wrap64_in _ (by omega)]
theorem S_b (N : Nat) : ∀ l : List Pk, (∀ p ∈ l, p.n ≤ N) → 0 ≤ S Tal.b l ∧ S Tal.b l ≤ (l.length * N : Nat)
  | [], _ => by simp [S]
  | p :: l, h => by
    obtain ⟨h1, h2⟩ := S_b N l (fun q hq => h q (by simp [hq]))
    have h3 := h p (by simp)
    have e : S Tal.b (p :: l) = (p.n : Int) + S Tal.b l := by simp [S, oneT, kindT]
    rw [e, List.length_cons, Nat.succ_mul]
    omega
theorem bytes_small (l : List Pk) (h : l.length ≤ 300) (hs : ∀ p ∈ l, p.n ≤ 1048576) : 0 ≤ (tallyOf l).b ∧ (tallyOf l).b ≤ 1125899906842624 := by
  obtain ⟨h1, h2⟩ := S_b 1048576 l hs
  have h3 : l.length * 1048576 ≤ 300 * 1048576 := Nat.mul_le_mul_right _ h
  rw [tally_wrap]
  show 0 ≤ wrap64 (S Tal.b l) ∧ wrap64 (S Tal.b l) ≤ _
  rw [IntWalk.wrap64_in _ (by omega)]
  omega
theorem share_same (t : Tal) (h : 0 ≤ t.b ∧ t.b ≤ 1125899906842624) (h0 : t.b ≠ 0) : shareT t t = 100 := by
  unfold shareT
  rw [if_neg (by omega), Int.mul_comm, Int.mul_ediv_cancel _ h0]
theorem share_zero (t : Tal) (h0 : t.b = 0) : shareT t t = 0 := by
  unfold shareT
  rw [if_pos (by omega)]
end Go.Proofs.Ythobmcpilfalgaa
