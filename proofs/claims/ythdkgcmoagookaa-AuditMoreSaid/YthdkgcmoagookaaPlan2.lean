/-
  A region that draws its order: one walk by a plan. What only reads is taken as soon as it can; what does not look at the world at all too ('pure');
  where two operations stand ready, both ways are walked; the last operations ('tail') may write whatever they like, for they wait for all that looks at the world.
-/
import Derived.Test.YthdkgcmoagookaaMid
namespace Go.Proofs.Ythdkgcmoagookaa.Plan2
open Go Go.RowKit Go.Proofs.Ythdkgcmoagookaa.Eager

inductive Plan where
  | done
  | take (i : Nat) (p : Plan)
  | pure (i : Nat) (p : Plan)
  | one (i : Nat) (p : Plan)
  | two (i : Nat) (p : Plan) (j : Nat) (q : Plan)
  | three (i : Nat) (p : Plan) (j : Nat) (q : Plan) (k : Nat) (r : Plan)
  | tail (is : List Nat)

def Plan.len : Plan → Nat
  | .done => 0
  | .take _ p => p.len + 1
  | .pure _ p => p.len + 1
  | .one _ p => p.len + 1
  | .two _ p _ _ => p.len + 1
  | .three _ p _ _ _ _ => p.len + 1
  | .tail is => is.length

/-- what of the world stays: all that stands; what lies below a block's number; all that stands but one row -/
inductive Kp where
  | all
  | below (b : Nat)
  | but (r : Option Nat)
/-- how the world may go on -/
def Rel : Kp → World → World → Prop
  | .all => fun w w' => Below w.heap.size w w'
  | .below b => fun w w' => Below b w w'
  | .but r => fun w w' => w.grownBy w' r
theorem Rel.refl (B : Kp) (w : World) : Rel B w w := by
  cases B with
  | but r => exact grown_refl w r
  | _ => exact Below.refl _ _
theorem Rel.trans {B : Kp} {a b c : World} (h : Rel B a b) (k : Rel B b c) : Rel B a c := by
  cases B with
  | all => exact Ext.trans h k
  | below n => exact Below.trans h k
  | but r => exact grown_trans h k

section
variable {P : Program} {ops : Array Oper} {Q : Exit → Act → World → Prop} {md : Region.Mode} {B : Kp}

/-- the next operation is carried out -/
def opThen (P : Program) (ops : Array Oper) (Q : Exit → Act → World → Prop) (i : Nat) (a : Act) (w : World) (K : Act → World → Prop) : Prop := match ops[i]? with
  | none => False
  | some o => if Region.wanted o (yielded ops a.tmps) = true then o.wp P a w K Q else K (a.put o.dst undef) w

def wpTail (P : Program) (ops : Array Oper) (Q : Exit → Act → World → Prop) : List Nat → Act → World → Prop
  | [], a, w => Q .normal a w
  | i :: is, a, w => opThen P ops Q i a w (wpTail P ops Q is)

def wpP (B : Kp) (P : Program) (ops : Array Oper) (Q : Exit → Act → World → Prop) : Plan → Act → World → Prop
  | .done, a, w => Q .normal a w
  | .tail is, a, w => wpTail P ops Q is a w
  | .take i p, a, w => match ops[i]? with
    | none => False
    | some o =>
      if Region.wanted o (yielded ops a.tmps) = true then ∃ v, (∀ w', Rel B w w' → (execOp a.eval o).run P w' = .ok (.value v) w') ∧ wpP B P ops Q p (a.put o.dst v) w
      else wpP B P ops Q p (a.put o.dst undef) w
  | .pure i p, a, w => match ops[i]? with
    | none => False
    | some o =>
      if Region.wanted o (yielded ops a.tmps) = true then ∃ v, (∀ w', (execOp a.eval o).run P w' = .ok (.value v) w') ∧ wpP B P ops Q p (a.put o.dst v) w
      else wpP B P ops Q p (a.put o.dst undef) w
  | .one i p, a, w => opThen P ops Q i a w (fun a' w' => Rel B w w' ∧ wpP B P ops Q p a' w')
  | .two i p j q, a, w => opThen P ops Q i a w (fun a' w' => Rel B w w' ∧ wpP B P ops Q p a' w') ∧ opThen P ops Q j a w (fun a' w' => Rel B w w' ∧ wpP B P ops Q q a' w')
  | .three i p j q k r, a, w => opThen P ops Q i a w (fun a' w' => Rel B w w' ∧ wpP B P ops Q p a' w') ∧ opThen P ops Q j a w (fun a' w' => Rel B w w' ∧ wpP B P ops Q q a' w') ∧ opThen P ops Q k a w (fun a' w' => Rel B w w' ∧ wpP B P ops Q r a' w')

/-- the operations of T wait for all others but those of U -/
def lastB (md : Region.Mode) (ops : Array Oper) (T U : List Nat) : Bool := T.all fun L => match ops[L]? with
  | none => true
  | some o => (List.range ops.size).all fun i => T.contains i || U.contains i || o.after.any fun e => Region.binds md e && e.on == i

theorem last_ready {T U : List Nat} {L i : Nat} {listed : Array Bool} (h : lastB md ops T U = true) (hT : L ∈ T) (hL : L ∈ Region.ready md ops listed) (hi : i ∈ Region.ready md ops listed) (hU : i ∉ U) : i ∈ T := by
  obtain ⟨-, o, ho, hall⟩ := mem_ready.1 hL
  obtain ⟨hin, oi, hoi, -⟩ := mem_ready.1 hi
  have h := List.all_eq_true.1 h L hT
  rw [ho] at h
  simp only [List.all_eq_true, List.mem_range, Bool.or_eq_true, List.contains_iff_mem] at h
  have hlt : i < ops.size := by
    by_cases hl : i < ops.size
    · exact hl
    · rw [Array.getElem?_eq_none (by omega)] at hoi; cases hoi
  rcases h i hlt with (e | e) | e
  · exact e
  · exact absurd e hU
  · rw [Array.any_eq_true] at e
    obtain ⟨k, hk, hb⟩ := e
    simp only [Bool.and_eq_true, beq_iff_eq] at hb
    have := hall _ (Array.getElem_mem hk) hb.1
    rw [hb.2] at this
    by_cases hl : i < listed.size
    · simp [hl] at hin this; rw [hin] at this; cases this
    · simp [Array.getElem?_eq_none (by omega : listed.size ≤ i)] at hin

/-- whatever order is picked: each operation but those of T lets the world go on as it may -/
def Owed (P : Program) (md : Region.Mode) (ops : Array Oper) (Q : Exit → Act → World → Prop) (T : List Nat) (B : Kp) : Nat → Array Bool → Act → World → Prop
  | 0, listed, a, w => Region.ready md ops listed = [] ∧ Q .normal a w
  | n + 1, listed, a, w => (Region.ready md ops listed = [] → Q .normal a w) ∧
      ∀ i, i ∈ Region.ready md ops listed → wpOp P ops Q i (fun a' w' => (i ∈ T ∨ Rel B w w') ∧ Owed P md ops Q T B n (listed.setIfInBounds i true) a' w') a w

theorem Owed.any {T : List Nat} : ∀ (n : Nat) (listed : Array Bool) (a : Act) (w : World), Owed P md ops Q T B n listed a w → wpAny P md ops Q n listed a w
  | 0, _, _, _, h => h
  | n + 1, _, _, _, h => ⟨h.1, fun i hi => wpOp_mono (fun _ _ h' => Owed.any n _ _ _ h'.2) (h.2 i hi)⟩

/-- what only reads is taken first -/
theorem Owed.take {T : List Nat} {S : World → Prop} (hkeep : ∀ x y, S x → Rel B x y → S y) {i : Nat} {oi : Oper} {v : Value} (hi : ops[i]? = some oi)
    (hT : (∀ (L : Nat) (listed : Array Bool), L ∈ T → L ∈ Region.ready md ops listed → i ∈ Region.ready md ops listed → False) ∨ ∀ x, S x) (hsel : Region.noSelect ops = true)
    (hQ : ∀ c a w, Q (.panic c) (a.put oi.dst v) w → Q (.panic c) a w) :
    ∀ (n : Nat) (listed : Array Bool) (a : Act) (w : World),
      (∀ j oj, ops[j]? = some oj → j ≠ i → listed.getD j true = false → (∀ e ∈ oj.after, Region.binds md e = true → e.on ≠ i) → oi.apart ops oj = true) →
      i ∈ Region.ready md ops listed → YieldsIf P ops S oi v a → S w →
      Owed P md ops Q T B n (listed.setIfInBounds i true) (a.put oi.dst v) w → Owed P md ops Q T B (n + 1) listed a w := by
  have hsel' := Region.noSelect_spec hsel
  intro n
  induction n with
  | zero =>
    intro listed a w _ hr hy hS H
    constructor
    · intro h0; rw [h0] at hr; cases hr
    · intro j hj
      rcases Decidable.em (j = i) with e | e
      · subst e
        exact hy.wpOp hi hS ⟨.inr (Rel.refl B w), H⟩
      · have hmem := ready_mono hj e
        rw [H.1] at hmem
        cases hmem
  | succ n ih =>
    intro listed a w hap hr hy hS H
    constructor
    · intro h0; rw [h0] at hr; cases hr
    · intro j hj
      rcases Decidable.em (j = i) with e | e
      · subst e
        exact hy.wpOp hi hS ⟨.inr (Rel.refl B w), H⟩
      · obtain ⟨hjn, oj, hoj, hlisted⟩ := mem_ready.1 hj
        have hfreej : ∀ e ∈ oj.after, Region.binds md e = true → e.on ≠ i := by
          intro x hx hb hxi
          have h1 := hlisted x hx hb
          have h2 := (mem_ready.1 hr).1
          rw [hxi] at h1
          by_cases hlt : i < listed.size
          · simp [hlt] at h1 h2; rw [h2] at h1; cases h1
          · simp [Array.getElem?_eq_none (by omega : listed.size ≤ i)] at h2
        have hstep := wpOp_putIf hoj (hap j oj hoj e hjn hfreej) (fun cs b => hsel' i oi cs b hi) (fun cs b => hsel' j oj cs b hoj) hQ hy (H.2 j (ready_mono hj e))
        refine wpOp_mono (fun a' w' h => ?_) hstep
        obtain ⟨hy', hs', hrest⟩ := h
        have hri : i ∈ Region.ready md ops (listed.setIfInBounds j true) := ready_mono hr (fun h => e h.symm)
        have hcomm : (listed.setIfInBounds i true).setIfInBounds j true = (listed.setIfInBounds j true).setIfInBounds i true := (Array.setIfInBounds_comm _ _ e).symm
        rw [hcomm] at hrest
        have hS' : S w' := by
          rcases hT with hT | hT
          · rcases hs' with h | h
            · exact (hT j listed h hj hr).elim
            · exact hkeep _ _ hS h
          · exact hT w'
        refine ⟨hs', ih _ a' w' ?_ hri hy' hS' hrest⟩
        intro k ok hk hki hun hno
        refine hap k ok hk hki ?_ hno
        by_cases hjk : j = k
        · subst hjk; exact hjn
        · rwa [getD_set_ne true hjk] at hun

def okTail (T : List Nat) (md : Region.Mode) (ops : Array Oper) : List Nat → Array Bool → Bool
  | [], listed => (Region.ready md ops listed).isEmpty
  | i :: is, listed => (Region.ready md ops listed == [i]) && T.contains i && okTail T md ops is (listed.setIfInBounds i true)

def okP (T U : List Nat) (md : Region.Mode) (ops : Array Oper) : Plan → Array Bool → Bool
  | .done, listed => (Region.ready md ops listed).isEmpty
  | .tail is, listed => okTail T md ops is listed
  | .take i p, listed => (Region.ready md ops listed).contains i && Region.free md ops listed i && !T.contains i && !U.contains i && okP T U md ops p (listed.setIfInBounds i true)
  | .pure i p, listed => (Region.ready md ops listed).contains i && Region.free md ops listed i && okP T U md ops p (listed.setIfInBounds i true)
  | .one i p, listed => (Region.ready md ops listed == [i]) && okP T U md ops p (listed.setIfInBounds i true)
  | .three i p j q k r, listed => ((Region.ready md ops listed == [i, j, k]) && ((p.len == q.len) && (p.len == r.len))) && (okP T U md ops p (listed.setIfInBounds i true) && (okP T U md ops q (listed.setIfInBounds j true) && okP T U md ops r (listed.setIfInBounds k true)))
  | .two i p j q, listed => ((Region.ready md ops listed == [i, j]) && (p.len == q.len)) && (okP T U md ops p (listed.setIfInBounds i true) && okP T U md ops q (listed.setIfInBounds j true))

theorem op_sound {T : List Nat} {i : Nat} {a : Act} {w : World} {R S : Act → World → Prop} (hRS : ∀ a' w', R a' w' → (i ∈ T ∨ Rel B w w') ∧ S a' w') (h : opThen P ops Q i a w R) :
    wpOp P ops Q i (fun a' w' => (i ∈ T ∨ Rel B w w') ∧ S a' w') a w := by
  unfold opThen at h
  cases hi : ops[i]? with
  | none => rw [hi] at h; exact h.elim
  | some o =>
    rw [hi] at h
    simp only at h
    unfold wpOp
    by_cases hw : Region.wanted o (yielded ops a.tmps) = true
    · rw [if_pos hw] at h
      simp only [hi, hw, if_true]
      exact .inl (Oper.wp_mono (fun a' w' h' => hRS _ _ h') h)
    · rw [if_neg hw] at h
      simp only [hi, hw]
      exact hRS _ _ h

theorem tail_sound {T : List Nat} : ∀ (is : List Nat) (listed : Array Bool) (a : Act) (w : World), okTail T md ops is listed = true → wpTail P ops Q is a w → Owed P md ops Q T B is.length listed a w
  | [], listed, a, w, hok, h => ⟨by simpa [okTail] using hok, h⟩
  | i :: is, listed, a, w, hok, h => by
    simp only [okTail, Bool.and_eq_true, beq_iff_eq] at hok
    obtain ⟨⟨hrs, hiT⟩, hrest⟩ := hok
    have hiT' : i ∈ T := by simpa using hiT
    refine ⟨fun h0 => (by rw [hrs] at h0; cases h0), ?_⟩
    rw [hrs]
    intro j hj
    obtain rfl : j = i := by simpa using hj
    exact op_sound (R := wpTail P ops Q is) (fun a' w' h' => ⟨.inl hiT', tail_sound is _ a' w' hrest h'⟩) h

theorem plan_sound {T U : List Nat} (hL : lastB md ops T U = true) (hs : Region.noSelect ops = true) (hQ : ∀ c (a : Act) d v w, Q (.panic c) (a.put d v) w → Q (.panic c) a w) :
    ∀ (p : Plan) (listed : Array Bool) (a : Act) (w : World), okP T U md ops p listed = true → wpP B P ops Q p a w → Owed P md ops Q T B p.len listed a w := by
  intro p
  induction p with
  | done =>
    intro listed a w hok h
    exact ⟨by simpa [okP] using hok, h⟩
  | tail is =>
    intro listed a w hok h
    exact tail_sound is listed a w hok h
  | take i p ih =>
    intro listed a w hok h
    simp only [okP, Bool.and_eq_true] at hok
    obtain ⟨⟨⟨⟨hr, hq⟩, hiT⟩, hiU⟩, hok'⟩ := hok
    have hiT' : i ∉ T := by simpa using hiT
    have hiU' : i ∉ U := by simpa using hiU
    simp only [wpP] at h
    cases hi : ops[i]? with
    | none => rw [hi] at h; exact h.elim
    | some o =>
      rw [hi] at h
      simp only at h
      have tk := fun (v : Value) (hy : YieldsIf P ops (Rel B w) o v a) (hrest : Owed P md ops Q T B p.len (listed.setIfInBounds i true) (a.put o.dst v) w) =>
        Owed.take (B := B) (S := Rel B w) (fun x y hx hxy => Rel.trans hx hxy) hi (.inl fun L l h1 h2 h3 => hiT' (last_ready hL h1 h2 h3 hiU')) hs (fun c a w => hQ c a _ _ w) p.len listed a w (Region.free_spec hi hq) (by simpa using hr) hy (Rel.refl B w) hrest
      by_cases hw : Region.wanted o (yielded ops a.tmps) = true
      · rw [if_pos hw] at h
        obtain ⟨v, hy, hrest⟩ := h
        exact tk v (Or.inl ⟨hw, hy⟩) (ih _ _ _ hok' hrest)
      · rw [if_neg hw] at h
        exact tk undef (Or.inr ⟨by simpa using hw, rfl⟩) (ih _ _ _ hok' h)
  | pure i p ih =>
    intro listed a w hok h
    simp only [okP, Bool.and_eq_true] at hok
    obtain ⟨⟨hr, hq⟩, hok'⟩ := hok
    simp only [wpP] at h
    cases hi : ops[i]? with
    | none => rw [hi] at h; exact h.elim
    | some o =>
      rw [hi] at h
      simp only at h
      have tk := fun (v : Value) (hy : YieldsIf P ops (fun _ => True) o v a) (hrest : Owed P md ops Q T B p.len (listed.setIfInBounds i true) (a.put o.dst v) w) =>
        Owed.take (B := B) (S := fun _ => True) (fun _ _ _ _ => trivial) hi (.inr fun _ => trivial) hs (fun c a w => hQ c a _ _ w) p.len listed a w (Region.free_spec hi hq) (by simpa using hr) hy trivial hrest
      by_cases hw : Region.wanted o (yielded ops a.tmps) = true
      · rw [if_pos hw] at h
        obtain ⟨v, hy, hrest⟩ := h
        exact tk v (Or.inl ⟨hw, fun w' _ => hy w'⟩) (ih _ _ _ hok' hrest)
      · rw [if_neg hw] at h
        exact tk undef (Or.inr ⟨by simpa using hw, rfl⟩) (ih _ _ _ hok' h)
  | one i p ih =>
    intro listed a w hok h
    simp only [okP, Bool.and_eq_true, beq_iff_eq] at hok
    obtain ⟨hrs, hok'⟩ := hok
    simp only [wpP] at h
    refine ⟨fun h0 => (by rw [hrs] at h0; cases h0), ?_⟩
    rw [hrs]
    intro j hj
    obtain rfl : j = i := by simpa using hj
    exact op_sound (fun a' w' h' => ⟨.inr h'.1, ih _ _ _ hok' h'.2⟩) h
  | two i p j q ihp ihq =>
    intro listed a w hok h
    simp only [okP, Bool.and_eq_true, beq_iff_eq] at hok
    obtain ⟨⟨hrs, hl⟩, hokp, hokq⟩ := hok
    simp only [wpP] at h
    refine ⟨fun h0 => (by rw [hrs] at h0; cases h0), ?_⟩
    rw [hrs]
    intro k hk
    have hk' : k = i ∨ k = j := by simpa using hk
    rcases hk' with rfl | rfl
    · exact op_sound (fun a' w' h' => ⟨.inr h'.1, ihp _ _ _ hokp h'.2⟩) h.1
    · exact op_sound (fun a' w' h' => ⟨.inr h'.1, hl ▸ ihq _ _ _ hokq h'.2⟩) h.2
  | three i p j q k r ihp ihq ihr =>
    intro listed a w hok h
    simp only [okP, Bool.and_eq_true, beq_iff_eq] at hok
    obtain ⟨⟨hrs, hl, hl'⟩, hokp, hokq, hokr⟩ := hok
    simp only [wpP] at h
    refine ⟨fun h0 => (by rw [hrs] at h0; cases h0), ?_⟩
    rw [hrs]
    intro x hx
    have hx' : x = i ∨ x = j ∨ x = k := by simpa using hx
    rcases hx' with rfl | rfl | rfl
    · exact op_sound (fun a' w' h' => ⟨.inr h'.1, ihp _ _ _ hokp h'.2⟩) h.1
    · exact op_sound (fun a' w' h' => ⟨.inr h'.1, hl ▸ ihq _ _ _ hokq h'.2⟩) h.2.1
    · exact op_sound (fun a' w' h' => ⟨.inr h'.1, hl' ▸ ihr _ _ _ hokr h'.2⟩) h.2.2

/-- the walk, where the world has gone on from W0 -/
structure wpPB (B : Kp) (P : Program) (ops : Array Oper) (Q : Exit → Act → World → Prop) (W0 : World) (p : Plan) (a : Act) (w : World) : Prop where
  out : Rel B W0 w → wpP B P ops Q p a w
/-- the tail of the walk -/
structure wpTB (P : Program) (ops : Array Oper) (Q : Exit → Act → World → Prop) (is : List Nat) (a : Act) (w : World) : Prop where
  out : wpTail P ops Q is a w

/-- the region -/
theorem wp_region_plan (B : Kp) (T U : List Nat) {id : Nat} {l : List Oper} {a : Act} {w : World} (p : Plan) (hm : P.follows .mixedOrders = true)
    (hok : (Region.noSelect l.toArray && lastB .any l.toArray T U && (p.len == l.length) && okP T U .any l.toArray p (Array.replicate l.length false)) = true)
    (hQ : ∀ c (a : Act) d v w, Q (.panic c) (a.put d v) w → Q (.panic c) a w)
    (h : ∀ W0 : World, W0 = w.drew → wpPB B P l.toArray Q W0 p a W0) : (Code.region id l.toArray true).wp P Q a w := by
  simp only [Bool.and_eq_true, beq_iff_eq] at hok
  obtain ⟨⟨⟨hs, hL⟩, hl⟩, hok⟩ := hok
  refine wp_region_any hm (Owed.any (T := T) (B := B) _ _ _ _ ?_)
  have := plan_sound (P := P) (Q := Q) (md := .any) hL hs hQ p (Array.replicate l.length false) a w.drew hok ((h _ rfl).out (Rel.refl _ _))
  rw [hl] at this
  simpa using this

variable {l : List Oper} {W0 : World} {p q r : Plan}

theorem pl_take {i d : Nat} {o : Oper} {a : Act} {w : World} {v : Value} (hi : nth l i = some o) (hd : o.dst = some d) (hw : Region.wanted o (yielded l.toArray a.tmps) = true)
    (h : ∀ w', Rel B W0 w' → Rel B w w' → (execOp a.eval o).run P w' = .ok (.value v) w') (rest : wpPB B P l.toArray Q W0 p (a.put (some d) v) w) : wpPB B P l.toArray Q W0 (.take i p) a w := by
  refine ⟨fun hB => ?_⟩
  rw [nth_eq] at hi
  simp only [wpP, hi, hw, if_true]
  rw [hd]
  exact ⟨v, fun w' hw' => h w' (Rel.trans hB hw') hw', rest.out hB⟩

theorem pl_skip {i d : Nat} {o : Oper} {a : Act} {w : World} (hi : nth l i = some o) (hd : o.dst = some d) (hw : Region.wanted o (yielded l.toArray a.tmps) = false)
    (rest : wpPB B P l.toArray Q W0 p (a.put (some d) undef) w) : wpPB B P l.toArray Q W0 (.take i p) a w := by
  refine ⟨fun hB => ?_⟩
  rw [nth_eq] at hi
  simp only [wpP, hi, hw]
  rw [hd]
  exact rest.out hB

theorem pl_pure {i d : Nat} {o : Oper} {a : Act} {w : World} {v : Value} (hi : nth l i = some o) (hd : o.dst = some d) (hw : Region.wanted o (yielded l.toArray a.tmps) = true)
    (h : ∀ w', (execOp a.eval o).run P w' = .ok (.value v) w') (rest : wpPB B P l.toArray Q W0 p (a.put (some d) v) w) : wpPB B P l.toArray Q W0 (.pure i p) a w := by
  refine ⟨fun hB => ?_⟩
  rw [nth_eq] at hi
  simp only [wpP, hi, hw, if_true]
  rw [hd]
  exact ⟨v, h, rest.out hB⟩

theorem pl_one {i : Nat} {o : Oper} {a : Act} {w : World} (hi : nth l i = some o) (hw : Region.wanted o (yielded l.toArray a.tmps) = true)
    (h : ∀ K : Act → World → Prop, (∀ a' w', Rel B w w' → wpPB B P l.toArray Q W0 p a' w' → K a' w') → o.wp P a w K Q) : wpPB B P l.toArray Q W0 (.one i p) a w := by
  refine ⟨fun hB => ?_⟩
  rw [nth_eq] at hi
  simp only [wpP, opThen, hi, hw, if_true]
  exact h _ fun a' w' h1 h2 => ⟨h1, h2.out (Rel.trans hB h1)⟩

theorem pl_skip1 {i d : Nat} {o : Oper} {a : Act} {w : World} (hi : nth l i = some o) (hd : o.dst = some d) (hw : Region.wanted o (yielded l.toArray a.tmps) = false)
    (rest : wpPB B P l.toArray Q W0 p (a.put (some d) undef) w) : wpPB B P l.toArray Q W0 (.one i p) a w := by
  refine ⟨fun hB => ?_⟩
  rw [nth_eq] at hi
  simp only [wpP, opThen, hi, hw]
  rw [hd]
  exact ⟨Rel.refl B w, rest.out hB⟩

theorem pl_two {i j : Nat} {o o' : Oper} {a : Act} {w : World} (hi : nth l i = some o) (hw : Region.wanted o (yielded l.toArray a.tmps) = true)
    (hj : nth l j = some o') (hw' : Region.wanted o' (yielded l.toArray a.tmps) = true)
    (h : ∀ K : Act → World → Prop, (∀ a' w', Rel B w w' → wpPB B P l.toArray Q W0 p a' w' → K a' w') → o.wp P a w K Q)
    (h' : ∀ K : Act → World → Prop, (∀ a' w', Rel B w w' → wpPB B P l.toArray Q W0 q a' w' → K a' w') → o'.wp P a w K Q) : wpPB B P l.toArray Q W0 (.two i p j q) a w := by
  refine ⟨fun hB => ?_⟩
  rw [nth_eq] at hi hj
  simp only [wpP, opThen, hi, hw, hj, hw', if_true]
  exact ⟨h _ fun a' w' h1 h2 => ⟨h1, h2.out (Rel.trans hB h1)⟩, h' _ fun a' w' h1 h2 => ⟨h1, h2.out (Rel.trans hB h1)⟩⟩

theorem pl_three {i j k : Nat} {o o' o'' : Oper} {a : Act} {w : World} (hi : nth l i = some o) (hw : Region.wanted o (yielded l.toArray a.tmps) = true)
    (hj : nth l j = some o') (hw' : Region.wanted o' (yielded l.toArray a.tmps) = true) (hk : nth l k = some o'') (hw'' : Region.wanted o'' (yielded l.toArray a.tmps) = true)
    (h : ∀ K : Act → World → Prop, (∀ a' w', Rel B w w' → wpPB B P l.toArray Q W0 p a' w' → K a' w') → o.wp P a w K Q)
    (h' : ∀ K : Act → World → Prop, (∀ a' w', Rel B w w' → wpPB B P l.toArray Q W0 q a' w' → K a' w') → o'.wp P a w K Q)
    (h'' : ∀ K : Act → World → Prop, (∀ a' w', Rel B w w' → wpPB B P l.toArray Q W0 r a' w' → K a' w') → o''.wp P a w K Q) : wpPB B P l.toArray Q W0 (.three i p j q k r) a w := by
  refine ⟨fun hB => ?_⟩
  rw [nth_eq] at hi hj hk
  simp only [wpP, opThen, hi, hw, hj, hw', hk, hw'', if_true]
  exact ⟨h _ fun a' w' h1 h2 => ⟨h1, h2.out (Rel.trans hB h1)⟩, h' _ fun a' w' h1 h2 => ⟨h1, h2.out (Rel.trans hB h1)⟩, h'' _ fun a' w' h1 h2 => ⟨h1, h2.out (Rel.trans hB h1)⟩⟩

theorem pl_tail {is : List Nat} {a : Act} {w : World} (h : wpTB P ops Q is a w) : wpPB B P ops Q W0 (.tail is) a w := ⟨fun _ => h.out⟩
theorem tl_do {i : Nat} {is : List Nat} {o : Oper} {a : Act} {w : World} (hi : nth l i = some o) (hw : Region.wanted o (yielded l.toArray a.tmps) = true)
    (h : ∀ K : Act → World → Prop, (∀ a' w', wpTB P l.toArray Q is a' w' → K a' w') → o.wp P a w K Q) : wpTB P l.toArray Q (i :: is) a w := by
  refine ⟨?_⟩
  rw [nth_eq] at hi
  simp only [wpTail, opThen, hi, hw, if_true]
  exact h _ fun a' w' h2 => h2.out
theorem tl_end {a : Act} {w : World} (h : Q .normal a w) : wpTB P ops Q [] a w := ⟨h⟩
theorem pl_end {a : Act} {w : World} (h : Q .normal a w) : wpPB B P ops Q W0 .done a w := ⟨fun _ => h⟩
end
end Go.Proofs.Ythdkgcmoagookaa.Plan2
