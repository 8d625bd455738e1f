/-
  A region that draws its order: one walk by a plan: what only reads is taken as soon as it can; where two operations stand ready, both ways are walked.
-/
import Derived.Test.YtlheepcojeaeaaaEager
namespace Go.Proofs.Ytlheepcojeaeaaa.Plan
open Go Go.RowKit Go.Proofs.Ytlheepcojeaeaaa.Eager

inductive Plan where
  | done
  | take (i : Nat) (p : Plan)
  | one (i : Nat) (p : Plan)
  | two (i : Nat) (p : Plan) (j : Nat) (q : Plan)
  | last (i : Nat)

def Plan.len : Plan → Nat
  | .done => 0
  | .take _ p => p.len + 1
  | .one _ p => p.len + 1
  | .two _ p _ _ => p.len + 1
  | .last _ => 1

section
variable {P : Program} {ops : Array Oper} {Q : Exit → Act → World → Prop} {md : Region.Mode}

/-- how the world may go on: nothing of it turns; or nothing below a block's number -/
def Rel : Option Nat → World → World → Prop
  | none => fun w w' => Below w.heap.size w w'
  | some b => fun w w' => Below b w w'
theorem Rel.refl (B : Option Nat) (w : World) : Rel B w w := by cases B <;> exact Below.refl _ _
theorem Rel.trans {B : Option Nat} {a b c : World} (h : Rel B a b) (k : Rel B b c) : Rel B a c := by
  cases B with
  | none => exact Ext.trans h k
  | some n => exact Below.trans h k

variable {B : Option Nat}

def wpP (B : Option Nat) (P : Program) (ops : Array Oper) (Q : Exit → Act → World → Prop) : Plan → Act → World → Prop
  | .last i, a, w => match ops[i]? with
    | none => False
    | some o =>
      if Region.wanted o (yielded ops a.tmps) = true then o.wp P a w (Q .normal) Q
      else Q .normal (a.put o.dst undef) w
  | .done, a, w => Q .normal a w
  | .take i p, a, w => match ops[i]? with
    | none => False
    | some o =>
      if Region.wanted o (yielded ops a.tmps) = true then ∃ v, (∀ w', Rel B w w' → (execOp a.eval o).run P w' = .ok (.value v) w') ∧ wpP B P ops Q p (a.put o.dst v) w
      else wpP B P ops Q p (a.put o.dst undef) w
  | .one i p, a, w => match ops[i]? with
    | none => False
    | some o =>
      if Region.wanted o (yielded ops a.tmps) = true then o.wp P a w (fun a' w' => Rel B w w' ∧ wpP B P ops Q p a' w') Q
      else wpP B P ops Q p (a.put o.dst undef) w
  | .two i p j q, a, w => (match ops[i]? with
    | none => False
    | some o =>
      if Region.wanted o (yielded ops a.tmps) = true then o.wp P a w (fun a' w' => Rel B w w' ∧ wpP B P ops Q p a' w') Q
      else wpP B P ops Q p (a.put o.dst undef) w) ∧ (match ops[j]? with
    | none => False
    | some o =>
      if Region.wanted o (yielded ops a.tmps) = true then o.wp P a w (fun a' w' => Rel B w w' ∧ wpP B P ops Q q a' w') Q
      else wpP B P ops Q q (a.put o.dst undef) w)


/-- an operation that waits for all others -/
def lastB (md : Region.Mode) (ops : Array Oper) (L : Nat) : Bool := match ops[L]? with
  | none => true
  | some o => (List.range ops.size).all fun i => i == L || o.after.any fun e => Region.binds md e && e.on == i

theorem last_ready {L i : Nat} {listed : Array Bool} (h : lastB md ops L = true) (hL : L ∈ Region.ready md ops listed) (hi : i ∈ Region.ready md ops listed) : i = L := by
  obtain ⟨-, o, ho, hall⟩ := mem_ready.1 hL
  obtain ⟨hin, oi, hoi, -⟩ := mem_ready.1 hi
  unfold lastB at h
  rw [ho] at h
  simp only [List.all_eq_true, List.mem_range, Bool.or_eq_true, beq_iff_eq] at h
  have hlt : i < ops.size := by
    by_cases hl : i < ops.size
    · exact hl
    · rw [Array.getElem?_eq_none (by omega)] at hoi; cases hoi
  rcases h i hlt with e | e
  · exact e
  · rw [Array.any_eq_true] at e
    obtain ⟨k, hk, hb⟩ := e
    simp only [Bool.and_eq_true, beq_iff_eq] at hb
    have := hall _ (Array.getElem_mem hk) hb.1
    rw [hb.2] at this
    by_cases hl : i < listed.size
    · simp [hl] at hin this; rw [hin] at this; cases this
    · simp [Array.getElem?_eq_none (by omega : listed.size ≤ i)] at hin

/-- whatever order is picked: the condition S on the world is owed behind each operation but the one that waits for all others -/
def Owed (P : Program) (md : Region.Mode) (ops : Array Oper) (Q : Exit → Act → World → Prop) (L : Nat) (S : World → Prop) : Nat → Array Bool → Act → World → Prop
  | 0, listed, a, w => Region.ready md ops listed = [] ∧ Q .normal a w
  | n + 1, listed, a, w => (Region.ready md ops listed = [] → Q .normal a w) ∧
      ∀ i, i ∈ Region.ready md ops listed → wpOp P ops Q i (fun a' w' => (i = L ∨ S w') ∧ Owed P md ops Q L S n (listed.setIfInBounds i true) a' w') a w

theorem Owed.any {L : Nat} {S : World → Prop} : ∀ (n : Nat) (listed : Array Bool) (a : Act) (w : World), Owed P md ops Q L S n listed a w → wpAny P md ops Q n listed a w
  | 0, _, _, _, h => h
  | n + 1, _, _, _, h => ⟨h.1, fun i hi => wpOp_mono (fun _ _ h' => Owed.any n _ _ _ h'.2) (h.2 i hi)⟩

theorem Owed.weaken {L : Nat} {S S' : World → Prop} (h : ∀ w, S w → S' w) : ∀ (n : Nat) (listed : Array Bool) (a : Act) (w : World), Owed P md ops Q L S n listed a w → Owed P md ops Q L S' n listed a w
  | 0, _, _, _, H => H
  | n + 1, _, _, _, H => ⟨H.1, fun i hi => wpOp_mono (fun _ _ h' => ⟨h'.1.imp id (h _), Owed.weaken h n _ _ _ h'.2⟩) (H.2 i hi)⟩

/-- what only reads is taken first -/
theorem Owed.take {L : Nat} (hL : lastB md ops L = true) {S : World → Prop} {i : Nat} {oi : Oper} {v : Value} (hi : ops[i]? = some oi) (hsel : Region.noSelect ops = true)
    (hQ : ∀ c a w, Q (.panic c) (a.put oi.dst v) w → Q (.panic c) a w) :
    ∀ (n : Nat) (listed : Array Bool) (a : Act) (w : World),
      (∀ j oj, ops[j]? = some oj → j ≠ i → listed.getD j true = false → (∀ e ∈ oj.after, Region.binds md e = true → e.on ≠ i) → oi.apart ops oj = true) →
      i ∈ Region.ready md ops listed → YieldsIf P ops S oi v a → S w →
      Owed P md ops Q L S n (listed.setIfInBounds i true) (a.put oi.dst v) w → Owed P md ops Q L S (n + 1) listed a w := by
  have hsel' := Region.noSelect_spec hsel
  intro n
  induction n with
  | zero =>
    intro listed a w _ hr hy hS H
    constructor
    · intro h0; rw [h0] at hr; cases hr
    · intro j hj
      rcases Decidable.em (j = i) with e | e
      · subst e
        exact hy.wpOp hi hS ⟨.inr hS, H⟩
      · have hmem := ready_mono hj e
        rw [H.1] at hmem
        cases hmem
  | succ n ih =>
    intro listed a w hap hr hy hS H
    constructor
    · intro h0; rw [h0] at hr; cases hr
    · intro j hj
      rcases Decidable.em (j = i) with e | e
      · subst e
        exact hy.wpOp hi hS ⟨.inr hS, H⟩
      · obtain ⟨hjn, oj, hoj, hlisted⟩ := mem_ready.1 hj
        have hfreej : ∀ e ∈ oj.after, Region.binds md e = true → e.on ≠ i := by
          intro x hx hb hxi
          have h1 := hlisted x hx hb
          have h2 := (mem_ready.1 hr).1
          rw [hxi] at h1
          by_cases hlt : i < listed.size
          · simp [hlt] at h1 h2; rw [h2] at h1; cases h1
          · simp [Array.getElem?_eq_none (by omega : listed.size ≤ i)] at h2
        have hstep := wpOp_putIf hoj (hap j oj hoj e hjn hfreej) (fun cs b => hsel' i oi cs b hi) (fun cs b => hsel' j oj cs b hoj) hQ hy (H.2 j (ready_mono hj e))
        refine wpOp_mono (fun a' w' h => ?_) hstep
        obtain ⟨hy', hs', hrest⟩ := h
        have hri : i ∈ Region.ready md ops (listed.setIfInBounds j true) := ready_mono hr (fun h => e h.symm)
        have hcomm : (listed.setIfInBounds i true).setIfInBounds j true = (listed.setIfInBounds j true).setIfInBounds i true := (Array.setIfInBounds_comm _ _ e).symm
        rw [hcomm] at hrest
        have hS' : S w' := by
          rcases hs' with h | h
          · subst h
            exact absurd (last_ready hL hj hr).symm e
          · exact h
        refine ⟨.inr hS', ih _ a' w' ?_ hri hy' hS' hrest⟩
        intro k ok hk hki hun hno
        refine hap k ok hk hki ?_ hno
        by_cases hjk : j = k
        · subst hjk; exact hjn
        · rwa [getD_set_ne true hjk] at hun

def okP (L : Nat) (md : Region.Mode) (ops : Array Oper) : Plan → Array Bool → Bool
  | .done, listed => (Region.ready md ops listed).isEmpty
  | .last i, listed => (Region.ready md ops listed == [i]) && (i == L) && (Region.ready md ops (listed.setIfInBounds i true)).isEmpty
  | .take i p, listed => (Region.ready md ops listed).contains i && Region.free md ops listed i && okP L md ops p (listed.setIfInBounds i true)
  | .one i p, listed => (Region.ready md ops listed == [i]) && okP L md ops p (listed.setIfInBounds i true)
  | .two i p j q, listed => ((Region.ready md ops listed == [i, j]) && (p.len == q.len)) && (okP L md ops p (listed.setIfInBounds i true) && okP L md ops q (listed.setIfInBounds j true))

theorem op_sound {L : Nat} {i : Nat} {a : Act} {w : World} {R : Act → World → Prop} {S : Act → World → Prop}
    (hR : ∀ a' w', Rel B w w' → R a' w' → S a' w')
    (h : match ops[i]? with
      | none => False
      | some o => if Region.wanted o (yielded ops a.tmps) = true then o.wp P a w (fun a' w' => Rel B w w' ∧ R a' w') Q else R (a.put o.dst undef) w) :
    wpOp P ops Q i (fun a' w' => (i = L ∨ Rel B w w') ∧ S a' w') a w := by
  cases hi : ops[i]? with
  | none => rw [hi] at h; exact h.elim
  | some o =>
    rw [hi] at h
    simp only at h
    unfold wpOp
    by_cases hw : Region.wanted o (yielded ops a.tmps) = true
    · rw [if_pos hw] at h
      simp only [hi, hw, if_true]
      exact .inl (Oper.wp_mono (fun a' w' h' => ⟨.inr h'.1, hR _ _ h'.1 h'.2⟩) h)
    · rw [if_neg hw] at h
      simp only [hi, hw]
      exact ⟨.inr (Rel.refl B w), hR _ _ (Rel.refl B w) h⟩

theorem plan_sound {L : Nat} (hL : lastB md ops L = true) (hs : Region.noSelect ops = true) (hQ : ∀ c (a : Act) d v w, Q (.panic c) (a.put d v) w → Q (.panic c) a w) :
    ∀ (p : Plan) (listed : Array Bool) (a : Act) (w : World), okP L md ops p listed = true → wpP B P ops Q p a w → Owed P md ops Q L (Rel B w) p.len listed a w := by
  intro p
  induction p with
  | done =>
    intro listed a w hok h
    exact ⟨by simpa [okP] using hok, h⟩
  | take i p ih =>
    intro listed a w hok h
    simp only [okP, Bool.and_eq_true] at hok
    obtain ⟨⟨hr, hq⟩, hok'⟩ := hok
    simp only [wpP] at h
    cases hi : ops[i]? with
    | none => rw [hi] at h; exact h.elim
    | some o =>
      rw [hi] at h
      simp only at h
      by_cases hw : Region.wanted o (yielded ops a.tmps) = true
      · rw [if_pos hw] at h
        obtain ⟨v, hy, hrest⟩ := h
        exact Owed.take hL hi hs (fun c a w => hQ c a _ _ w) _ listed a w (Region.free_spec hi hq) (by simpa using hr) (Or.inl ⟨hw, hy⟩) (Rel.refl B w) (ih _ _ _ hok' hrest)
      · rw [if_neg hw] at h
        exact Owed.take hL hi hs (fun c a w => hQ c a _ _ w) _ listed a w (Region.free_spec hi hq) (by simpa using hr) (Or.inr ⟨by simpa using hw, rfl⟩) (Rel.refl B w) (ih _ _ _ hok' h)
  | one i p ih =>
    intro listed a w hok h
    simp only [okP, Bool.and_eq_true, beq_iff_eq] at hok
    obtain ⟨hrs, hok'⟩ := hok
    simp only [wpP] at h
    refine ⟨fun h0 => (by rw [hrs] at h0; cases h0), ?_⟩
    rw [hrs]
    intro j hj
    obtain rfl : j = i := by simpa using hj
    exact op_sound (R := wpP B P ops Q p) (fun a' w' he h' => Owed.weaken (fun x hx => he.trans hx) _ _ _ _ (ih _ _ _ hok' h')) h
  | last i =>
    intro listed a w hok h
    simp only [okP, Bool.and_eq_true, beq_iff_eq] at hok
    obtain ⟨⟨hrs, hiL⟩, hemp⟩ := hok
    simp only [wpP] at h
    refine ⟨fun h0 => (by rw [hrs] at h0; cases h0), ?_⟩
    rw [hrs]
    intro j hj
    obtain rfl : j = i := by simpa using hj
    have hemp' : Region.ready md ops (listed.setIfInBounds j true) = [] := by simpa using hemp
    cases hi : ops[j]? with
    | none => rw [hi] at h; exact h.elim
    | some o =>
      rw [hi] at h
      simp only at h
      unfold wpOp
      by_cases hw : Region.wanted o (yielded ops a.tmps) = true
      · rw [if_pos hw] at h
        simp only [hi, hw, if_true]
        exact .inl (Oper.wp_mono (fun a' w' h' => ⟨.inl hiL, hemp', h'⟩) h)
      · rw [if_neg hw] at h
        simp only [hi, hw]
        exact ⟨.inl hiL, hemp', h⟩
  | two i p j q ihp ihq =>
    intro listed a w hok h
    simp only [okP, Bool.and_eq_true, beq_iff_eq] at hok
    obtain ⟨⟨hrs, hl⟩, hokp, hokq⟩ := hok
    simp only [wpP] at h
    refine ⟨fun h0 => (by rw [hrs] at h0; cases h0), ?_⟩
    rw [hrs]
    intro k hk
    have hk' : k = i ∨ k = j := by simpa using hk
    rcases hk' with rfl | rfl
    · exact op_sound (R := wpP B P ops Q p) (fun a' w' he h' => Owed.weaken (fun x hx => he.trans hx) _ _ _ _ (ihp _ _ _ hokp h')) h.1
    · exact op_sound (R := wpP B P ops Q q) (fun a' w' he h' => Owed.weaken (fun x hx => he.trans hx) _ _ _ _ (hl ▸ ihq _ _ _ hokq h')) h.2


/-- the walk, where the world has grown from W0 on -/
structure wpPB (B : Option Nat) (P : Program) (ops : Array Oper) (Q : Exit → Act → World → Prop) (W0 : World) (p : Plan) (a : Act) (w : World) : Prop where
  out : Rel B W0 w → wpP B P ops Q p a w

/-- the region -/
theorem wp_region_plan (B : Option Nat) (L : Nat) {id : Nat} {l : List Oper} {a : Act} {w : World} (p : Plan) (hm : P.follows .mixedOrders = true)
    (hok : (Region.noSelect l.toArray && lastB .any l.toArray L && (p.len == l.length) && okP L .any l.toArray p (Array.replicate l.length false)) = true)
    (hQ : ∀ c (a : Act) d v w, Q (.panic c) (a.put d v) w → Q (.panic c) a w)
    (h : ∀ W0 : World, W0 = w.drew → wpPB B P l.toArray Q W0 p a W0) : (Code.region id l.toArray true).wp P Q a w := by
  simp only [Bool.and_eq_true, beq_iff_eq] at hok
  obtain ⟨⟨⟨hs, hL⟩, hl⟩, hok⟩ := hok
  refine wp_region_any hm (Owed.any (L := L) (S := Rel B w.drew) _ _ _ _ ?_)
  have := plan_sound (P := P) (Q := Q) (md := .any) hL hs hQ p (Array.replicate l.length false) a w.drew hok ((h _ rfl).out (Rel.refl _ _))
  rw [hl] at this
  simpa using this

variable {l : List Oper} {W0 : World} {p q : Plan}

theorem pl_take {i d : Nat} {o : Oper} {a : Act} {w : World} {v : Value} (hi : nth l i = some o) (hd : o.dst = some d) (hw : Region.wanted o (yielded l.toArray a.tmps) = true)
    (h : ∀ w', Rel B W0 w' → Rel B w w' → (execOp a.eval o).run P w' = .ok (.value v) w') (rest : wpPB B P l.toArray Q W0 p (a.put (some d) v) w) : wpPB B P l.toArray Q W0 (.take i p) a w := by
  refine ⟨fun hB => ?_⟩
  rw [nth_eq] at hi
  simp only [wpP, hi, hw, if_true]
  rw [hd]
  exact ⟨v, fun w' hw' => h w' (Rel.trans hB hw') hw', rest.out hB⟩

theorem pl_skip {i d : Nat} {o : Oper} {a : Act} {w : World} (hi : nth l i = some o) (hd : o.dst = some d) (hw : Region.wanted o (yielded l.toArray a.tmps) = false)
    (rest : wpPB B P l.toArray Q W0 p (a.put (some d) undef) w) : wpPB B P l.toArray Q W0 (.take i p) a w := by
  refine ⟨fun hB => ?_⟩
  rw [nth_eq] at hi
  simp only [wpP, hi, hw]
  rw [hd]
  exact rest.out hB

theorem pl_one {i : Nat} {o : Oper} {a : Act} {w : World} (hi : nth l i = some o) (hw : Region.wanted o (yielded l.toArray a.tmps) = true)
    (h : ∀ K : Act → World → Prop, (∀ a' w', Rel B w w' → wpPB B P l.toArray Q W0 p a' w' → K a' w') → o.wp P a w K Q) : wpPB B P l.toArray Q W0 (.one i p) a w := by
  refine ⟨fun hB => ?_⟩
  rw [nth_eq] at hi
  simp only [wpP, hi, hw, if_true]
  exact h _ fun a' w' h1 h2 => ⟨h1, h2.out (Rel.trans hB h1)⟩

theorem pl_skip1 {i d : Nat} {o : Oper} {a : Act} {w : World} (hi : nth l i = some o) (hd : o.dst = some d) (hw : Region.wanted o (yielded l.toArray a.tmps) = false)
    (rest : wpPB B P l.toArray Q W0 p (a.put (some d) undef) w) : wpPB B P l.toArray Q W0 (.one i p) a w := by
  refine ⟨fun hB => ?_⟩
  rw [nth_eq] at hi
  simp only [wpP, hi, hw]
  rw [hd]
  exact rest.out hB

theorem pl_two {i j : Nat} {o o' : Oper} {a : Act} {w : World} (hi : nth l i = some o) (hw : Region.wanted o (yielded l.toArray a.tmps) = true)
    (hj : nth l j = some o') (hw' : Region.wanted o' (yielded l.toArray a.tmps) = true)
    (h : ∀ K : Act → World → Prop, (∀ a' w', Rel B w w' → wpPB B P l.toArray Q W0 p a' w' → K a' w') → o.wp P a w K Q)
    (h' : ∀ K : Act → World → Prop, (∀ a' w', Rel B w w' → wpPB B P l.toArray Q W0 q a' w' → K a' w') → o'.wp P a w K Q) : wpPB B P l.toArray Q W0 (.two i p j q) a w := by
  refine ⟨fun hB => ?_⟩
  rw [nth_eq] at hi hj
  simp only [wpP, hi, hw, hj, hw', if_true]
  exact ⟨h _ fun a' w' h1 h2 => ⟨h1, h2.out (Rel.trans hB h1)⟩, h' _ fun a' w' h1 h2 => ⟨h1, h2.out (Rel.trans hB h1)⟩⟩

theorem pl_last {i : Nat} {o : Oper} {a : Act} {w : World} (hi : nth l i = some o) (hw : Region.wanted o (yielded l.toArray a.tmps) = true)
    (h : ∀ K : Act → World → Prop, (∀ a' w', Q .normal a' w' → K a' w') → o.wp P a w K Q) : wpPB B P l.toArray Q W0 (.last i) a w := by
  refine ⟨fun hB => ?_⟩
  rw [nth_eq] at hi
  simp only [wpP, hi, hw, if_true]
  exact h _ fun a' w' h2 => h2

theorem pl_end {a : Act} {w : World} (h : Q .normal a w) : wpPB B P ops Q W0 .done a w := ⟨fun _ => h⟩
end
end Go.Proofs.Ytlheepcojeaeaaa.Plan
