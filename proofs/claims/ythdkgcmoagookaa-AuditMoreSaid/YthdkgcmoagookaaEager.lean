/-
  A region that draws its order and whose calls make memory: one walk, in an order in which what only reads comes as soon as it can.
-/
import Derived.WalkKit
import Derived.OrdersHeld
import Derived.Deep.RegionHeld3
namespace Go.Proofs.Ythdkgcmoagookaa.Eager
open Go Go.RowKit

/-- the world has only grown -/
abbrev Ext (w w' : World) : Prop := Below w.heap.size w w'

theorem Ext.refl (w : World) : Ext w w := Below.refl _ _
theorem Ext.trans {a b c : World} (h : Ext a b) (k : Ext b c) : Ext a c := Below.trans h (k.mono h.size)

section
variable {P : Program} {ops : Array Oper} {Q : Exit → Act → World → Prop} {md : Region.Mode}

/-- the walk: each place with the mark 'it only reads' -/
def wpSeq (P : Program) (ops : Array Oper) (Q : Exit → Act → World → Prop) : List (Nat × Bool) → Act → World → Prop
  | [], a, w => Q .normal a w
  | (i, q) :: σ, a, w => match ops[i]? with
    | none => False
    | some o =>
      if Region.wanted o (yielded ops a.tmps) = true then
        (if q = true then ∃ v, (∀ w', Ext w w' → (execOp a.eval o).run P w' = .ok (.value v) w') ∧ wpSeq P ops Q σ (a.put o.dst v) w
         else o.wp P a w (fun a' w' => Ext w w' ∧ wpSeq P ops Q σ a' w') Q)
      else wpSeq P ops Q σ (a.put o.dst undef) w

def okFrom (md : Region.Mode) (ops : Array Oper) : List (Nat × Bool) → Array Bool → Bool
  | [], listed => (Region.ready md ops listed).isEmpty
  | (i, q) :: σ, listed => (Region.ready md ops listed).contains i && (if q then Region.free md ops listed i else Region.ready md ops listed == [i]) && okFrom md ops σ (listed.setIfInBounds i true)

theorem held_weaken {S S' : World → Prop} (h : ∀ w, S w → S' w) : ∀ (fuel : Nat) (listed : Array Bool) (a : Act) (w : World), wpAnyH P md ops Q S fuel listed a w → wpAnyH P md ops Q S' fuel listed a w
  | 0, _, _, _, H => H
  | fuel + 1, _, _, _, H => ⟨H.1, fun i hi => wpOp_mono (fun a' w' h' => ⟨h _ h'.1, held_weaken h fuel _ a' w' h'.2⟩) (H.2 i hi)⟩

theorem seq_sound (hs : Region.noSelect ops = true) (hQ : ∀ c (a : Act) d v w, Q (.panic c) (a.put d v) w → Q (.panic c) a w) :
    ∀ (σ : List (Nat × Bool)) (listed : Array Bool) (a : Act) (w : World), okFrom md ops σ listed = true → wpSeq P ops Q σ a w → wpAnyH P md ops Q (Ext w) σ.length listed a w := by
  intro σ
  induction σ with
  | nil =>
    intro listed a w hok h
    exact ⟨by simpa [okFrom] using hok, h⟩
  | cons x σ ih =>
    obtain ⟨i, q⟩ := x
    intro listed a w hok h
    simp only [okFrom, Bool.and_eq_true] at hok
    obtain ⟨⟨hr, hq⟩, hok'⟩ := hok
    simp only [wpSeq] at h
    cases hi : ops[i]? with
    | none => rw [hi] at h; exact h.elim
    | some o =>
      rw [hi] at h
      simp only at h
      by_cases hw : Region.wanted o (yielded ops a.tmps) = true
      · rw [if_pos hw] at h
        cases q with
        | true =>
          rw [if_pos rfl] at h
          obtain ⟨v, hy, hrest⟩ := h
          exact wpAnyH_take hi hs (by simpa using hq) hr (fun c a w => hQ c a _ _ w) (Or.inl ⟨hw, hy⟩) (Ext.refl w) (ih _ _ _ hok' hrest)
        | false =>
          rw [if_neg (by simp)] at h
          have hrs : Region.ready md ops listed = [i] := by simpa using hq
          refine wpAnyH_all hrs (by simp) ?_
          intro j hj
          obtain rfl : j = i := by simpa using hj
          unfold wpOp
          simp only [hi, hw, if_true]
          refine .inl (Oper.wp_mono ?_ h)
          intro a' w' h'
          exact ⟨h'.1, held_weaken (fun x hx => h'.1.trans hx) _ _ _ _ (ih _ _ _ hok' h'.2)⟩
      · rw [if_neg hw] at h
        cases q with
        | true =>
          exact wpAnyH_take hi hs (by simpa using hq) hr (fun c a w => hQ c a _ _ w) (Or.inr ⟨by simpa using hw, rfl⟩) (Ext.refl w) (ih _ _ _ hok' h)
        | false =>
          have hrs : Region.ready md ops listed = [i] := by simpa using hq
          refine wpAnyH_all hrs (by simp) ?_
          intro j hj
          obtain rfl : j = i := by simpa using hj
          unfold wpOp
          simp only [hi, hw]
          exact ⟨Ext.refl w, ih _ _ _ hok' h⟩

/-- the walk, where the world has grown from W0 on -/
structure wpSeqB (P : Program) (ops : Array Oper) (Q : Exit → Act → World → Prop) (W0 : World) (σ : List (Nat × Bool)) (a : Act) (w : World) : Prop where
  out : Below W0.heap.size W0 w → wpSeq P ops Q σ a w

/-- the region -/
theorem wp_region_seq {id : Nat} {l : List Oper} {a : Act} {w : World} (σ : List (Nat × Bool)) (hm : P.follows .mixedOrders = true)
    (hok : (Region.noSelect l.toArray && (σ.length == l.length) && okFrom .any l.toArray σ (Array.replicate l.length false)) = true)
    (hQ : ∀ c (a : Act) d v w, Q (.panic c) (a.put d v) w → Q (.panic c) a w)
    (h : ∀ W0 : World, W0 = w.drew → wpSeqB P l.toArray Q W0 σ a W0) : (Code.region id l.toArray true).wp P Q a w := by
  simp only [Bool.and_eq_true, beq_iff_eq] at hok
  obtain ⟨⟨hs, hl⟩, hok⟩ := hok
  refine wp_region_held (S := Ext w.drew) hm ?_
  have := seq_sound (P := P) (Q := Q) (md := .any) hs hQ σ (Array.replicate l.length false) a w.drew hok ((h _ rfl).out (Below.refl _ _))
  rw [hl] at this
  simpa using this

/-! ### the steps: the region's list written out, each operation found in it by counting -/
def nth : List Oper → Nat → Option Oper
  | [], _ => none
  | o :: _, 0 => some o
  | _ :: l, n + 1 => nth l n

theorem nth_eq : ∀ (l : List Oper) (i : Nat), nth l i = l.toArray[i]?
  | [], _ => by simp [nth]
  | _ :: _, 0 => by simp [nth]
  | _ :: l, n + 1 => by simp [nth, nth_eq l n]

variable {l : List Oper} {W0 : World}

theorem seq_take {i d : Nat} {o : Oper} {σ : List (Nat × Bool)} {a : Act} {w : World} {v : Value} (hi : nth l i = some o) (hd : o.dst = some d) (hw : Region.wanted o (yielded l.toArray a.tmps) = true)
    (h : ∀ w', Below W0.heap.size W0 w' → Below w.heap.size w w' → (execOp a.eval o).run P w' = .ok (.value v) w') (rest : wpSeqB P l.toArray Q W0 σ (a.put (some d) v) w) : wpSeqB P l.toArray Q W0 ((i, true) :: σ) a w := by
  refine ⟨fun hB => ?_⟩
  rw [nth_eq] at hi
  simp only [wpSeq, hi, hw, if_true]
  rw [hd]
  exact ⟨v, fun w' hw' => h w' (Ext.trans hB hw') hw', rest.out hB⟩

theorem seq_skip {i d : Nat} {q : Bool} {o : Oper} {σ : List (Nat × Bool)} {a : Act} {w : World} (hi : nth l i = some o) (hd : o.dst = some d) (hw : Region.wanted o (yielded l.toArray a.tmps) = false)
    (rest : wpSeqB P l.toArray Q W0 σ (a.put (some d) undef) w) : wpSeqB P l.toArray Q W0 ((i, q) :: σ) a w := by
  refine ⟨fun hB => ?_⟩
  rw [nth_eq] at hi
  simp only [wpSeq, hi, hw]
  rw [hd]
  exact rest.out hB

theorem seq_do {i : Nat} {o : Oper} {σ : List (Nat × Bool)} {a : Act} {w : World} (hi : nth l i = some o) (hw : Region.wanted o (yielded l.toArray a.tmps) = true)
    (h : ∀ K : Act → World → Prop, (∀ a' w', Below w.heap.size w w' → wpSeqB P l.toArray Q W0 σ a' w' → K a' w') → o.wp P a w K Q) : wpSeqB P l.toArray Q W0 ((i, false) :: σ) a w := by
  refine ⟨fun hB => ?_⟩
  rw [nth_eq] at hi
  simp only [wpSeq, hi, hw, if_true]
  exact h _ fun a' w' h1 h2 => ⟨h1, h2.out (Ext.trans hB h1)⟩

theorem seq_end {a : Act} {w : World} (h : Q .normal a w) : wpSeqB P ops Q W0 [] a w := ⟨fun _ => h⟩

/-- the last operation writes, and all others have been carried out -/
theorem seq_last {i : Nat} {o : Oper} {a : Act} {w : World} (hi : nth l i = some o) (hw : Region.wanted o (yielded l.toArray a.tmps) = true)
    (h : ∀ K : Act → World → Prop, (∀ a' w', Below w.heap.size w w' → Q .normal a' w' → K a' w') → o.wp P a w K Q) : wpSeqB P l.toArray Q W0 [(i, false)] a w :=
  seq_do hi hw fun K hK => h K fun a' w' h1 h2 => hK a' w' h1 (seq_end h2)
end
end Go.Proofs.Ythdkgcmoagookaa.Eager
