/-
  Walks: whether no two names have one identifier, of whom any nodes know.
-/
import Derived.Maps.Views
import Derived.Sort.QuietIn
import Derived.Test.YthdkgcmoagookaaWm
namespace Go.Proofs.Ythdkgcmoagookaa
open Go.RowKit Go.Shelf Go.Proofs.Ythdkgcmoagookaa.Plan Go.Proofs.Ythdkgcmoagookaa.Eager
set_option maxHeartbeats 4000000
set_option maxRecDepth 20000
set_option linter.unusedVariables false
set_option linter.unusedSimpArgs false
attribute [local go_sem] Oper.semAt_some

section
variable {F : Fence} {nF : Nat} {P : Program} {w : World} {ops : Array Oper} {rest : List Oper} {o : Oper} {a : Act} {Q : Exit → Act → World → Prop}
theorem stop_lookupIn {m x : Operand} {t : TypeId} {b : Bool} (_ : o.op = .lookup t m x b) (h : Stop (wpListIn F nF P ops Q (o :: rest) a w)) : wpListIn F nF P ops Q (o :: rest) a w := h.out
theorem stop_updateIn {m x v : Operand} {t : TypeId} (_ : o.op = .mapUpdate t m x v) (h : Stop (wpListIn F nF P ops Q (o :: rest) a w)) : wpListIn F nF P ops Q (o :: rest) a w := h.out
end
/-! ### a region that draws and only reads, within a round: one walk serves every order -/
def noDefer (l : List Oper) : Bool := l.all fun o => match o.op with
  | .defer _ => false
  | _ => true
theorem noDefer_at {l : List Oper} (h : noDefer l = true) {o : Oper} (ho : o ∈ l) : ∀ c, o.op ≠ .defer c := by
  intro c e
  have := List.all_eq_true.1 h o ho
  rw [e] at this
  cases this
section
variable {F : Fence} {n : Nat} {P : Program} {ops : Array Oper} {md : Region.Mode} {C : World → Prop}
theorem op_quiet {o : Oper} {a : Act} {K : Act → Prop} {K' : Act → World → Prop} {Q' : Exit → Act → World → Prop} {w : World} (hd : ∀ c, o.op ≠ .defer c) (hw : C w) (h : ∀ a w', C w' → K a → K' a w')
    (ha : o.askedIn F P a C) (hh : o.quietIn F n P a C K) : o.wpIn F n P a w K' Q' := by
  obtain ⟨v, h1, h2⟩ := hh
  have h3 := h1 w hw
  refine ⟨ha w hw, ?_⟩
  rw [Oper.semAt_plain F _ _ hd]
  simp only [Oper.quietAtIn] at h3
  revert h3
  generalize (execOp a.eval o).run P w = r
  intro h3
  match r, h3 with
  | .ok (.value u) w', h3 => obtain ⟨e1, e2⟩ := h3; rw [e1, e2]; exact h _ _ hw h2
  | .ok .skip w', h3 => obtain ⟨e1, e2⟩ := h3; rw [e1]; subst e2; exact h _ _ hw h2
  | .ok (.enter f args) w', h3 => obtain ⟨e1, hd', hc⟩ := h3; rw [e1]; exact ⟨hd', hc.mono fun e w'' ⟨he, hw''⟩ => by subst he; exact h _ _ hw'' h2⟩
theorem opIn_quiet {i : Nat} {a : Act} {K : Act → Prop} {K' : Act → World → Prop} {Q' : Exit → Act → World → Prop} {w : World} (hd : noDefer ops.toList = true) (hC : C w) (h : ∀ a w', C w' → K a → K' a w')
    (hh : qOpIn F n P ops C i K a) : wpOpIn F n P ops Q' i K' a w := by
  unfold qOpIn at hh
  unfold wpOpIn
  cases ho : ops[i]? with
  | none => simp only [ho] at hh; exact h _ _ hC hh
  | some o =>
    have hm : o ∈ ops.toList := by
      obtain ⟨hi, e⟩ := Array.getElem?_eq_some_iff.1 ho
      rw [← e]; exact Array.mem_toList_iff.2 (Array.getElem_mem hi)
    simp only [ho] at hh
    obtain ⟨ha, hh⟩ := hh
    by_cases hw : Region.wanted o (yielded ops a.tmps) = true
    · simp only [hw, if_true] at hh ⊢; exact op_quiet (noDefer_at hd hm) hC h ha hh
    · simp only [hw] at hh ⊢; exact ⟨ha w hC, h _ _ hC hh⟩
theorem anyIn_quiet {Q : Act → Prop} {Q' : Exit → Act → World → Prop} (hd : noDefer ops.toList = true) (hQ : ∀ a w, C w → Q a → Q' .normal a w) : ∀ (fuel : Nat) (listed : Array Bool) (a : Act) (w : World), C w →
    wpAnyQIn F n P md ops C Q fuel listed a → wpAnyIn F n P md ops Q' fuel listed a w
  | 0, _, _, _, hw, h => ⟨h.1, hQ _ _ hw h.2⟩
  | fuel + 1, _, _, _, hw, h => ⟨fun h0 => hQ _ _ hw (h.1 h0), fun i hi => opIn_quiet hd hw (fun a' w' hw' => anyIn_quiet hd hQ fuel _ a' w' hw') (h.2 i hi)⟩
theorem wpIn_region_round {id : Nat} {Q : Exit → Act → World → Prop} {a : Act} {w : World} {l : List Oper} (hd : noDefer l = true) (hm : P.follows .mixedOrders = true) (hB : Region.lexB .any l.toArray = true)
    (h : wpQuietIn F n P l.toArray (fun w' => ∃ n, w' = w.drewN n) (fun a' => ∀ w', (∃ n, w' = w.drewN n) → Q .normal a' w') l a) : (Code.region id l.toArray true).wpIn F n P Q a w := by
  simp only [Region.lexB, Bool.and_eq_true] at hB
  refine wpIn_region_any hm (anyIn_quiet (C := fun w' => ∃ n, w' = w.drewN n) (Q := fun a' => ∀ w', (∃ n, w' = w.drewN n) → Q .normal a' w') (by simpa using hd) (fun _ w' hw' h => h w' hw') _ _ _ _ ⟨1, rfl⟩ ?_)
  have := wpAnyQIn_lex (F := F) (n := n) (P := P) (C := fun w' => ∃ n, w' = w.drewN n) (md := .any) (ops := l.toArray) hB.1 l 0 (Array.replicate l.toArray.size false) a (by simp) (by simpa using hB.2) h
  simpa using this
end
/-! ### marks of loops that are over -/
def mk (D : Nat) : Deferred := { target := .collected D, args := #[] }
/-- blocks Ds are shut -/
structure Marked (Ds : List Nat) (W W' : World) : Prop where
  os : W'.os = W.os
  tape : W'.tape = W.tape
  output : W'.output = W.output
  size : W'.heap.size = W.heap.size
  block : ∀ k, k ∉ Ds → W'.heap[k]? = W.heap[k]?
theorem leaves_marks {F : Fence} {n : Nat} {P : Program} {fn : Func} {tmps : Array Value} {R : Ending → World → Prop} : ∀ (Ds : List Nat) (W : World), (∀ D ∈ Ds, W.heap[D]? = some (.deferred (some []))) → Ds.Nodup →
    (∀ W', Marked Ds W W' → LeavesInM F n P fn tmps R [] .returning W') → LeavesInM F n P fn tmps R (Ds.map mk) .returning W
  | [], W, _, _, h => h W ⟨rfl, rfl, rfl, rfl, fun _ _ => rfl⟩
  | D :: Ds, W, h1, h2, h => by
    have hD := h1 D (by simp)
    refine ⟨by simp, .inl ⟨D, _, rfl, run_takeDeferred hD, ?_⟩⟩
    have hn := List.nodup_cons.1 h2
    refine leaves_marks Ds _ (fun D' hD' => ?_) hn.2 (fun W' hm => h W' ⟨hm.os, hm.tape, hm.output, hm.size.trans (by simp), fun k hk => ?_⟩)
    · have hne : D' ≠ D := by rintro rfl; exact hn.1 hD'
      exact (World.putObj_heap_other hne).trans (h1 D' (by simp [hD']))
    · simp only [List.mem_cons, not_or] at hk
      exact (hm.block k hk.2).trans (World.putObj_heap_other hk.1)

theorem marked_below {Ds : List Nat} {W W' : World} (h : Marked Ds W W') {B n : Nat} (hge : ∀ D ∈ Ds, B ≤ D) (hn : n ≤ B) : Below n W W' :=
  ⟨h.os, h.tape, h.output, by rw [h.size]; exact Nat.le_refl _, fun k hk => h.block k (fun hm => by have := hge k hm; omega)⟩
/-! ### which names were met, by identifier -/
abbrev Rep := Nat × ByteArray
def strR (x : Rep) : List Value := [.string x.2]
def keyL (n : Nat) : Lit := .int .u64 (n : Int)
structure Reps (D : DataW Unit) (R : List Rep) : Prop where
  isMap : Maps.IsMap D
  hit : ∀ i (hi : i < R.length), Maps.has D (keyL R[i].1) = true ∧ ∀ z, D.atKey (keyL R[i].1) z = .lit (.int .i64 (i : Int))
  miss : ∀ n, (∀ x ∈ R, x.1 ≠ n) → Maps.has D (keyL n) = false
theorem keyL_ne {a b : Nat} (h : a ≠ b) : keyL a ≠ keyL b := by
  intro e; apply h; have : (a : Int) = b := by simpa [keyL] using e
  omega
theorem keyL_key (n : Nat) : WideAt.IsKeyLit (keyL n) := by trivial
theorem Reps.nil : Reps (.map []) [] := ⟨Maps.isMap_empty, fun i hi => by simp at hi, fun n _ => rfl⟩
theorem Reps.put {D : DataW Unit} {R : List Rep} (h : Reps D R) (n : Nat) (nm : ByteArray) (hn : ∀ x ∈ R, x.1 ≠ n) : Reps (D.put (keyL n) (.lit (.int .i64 (R.length : Int)))) (R ++ [(n, nm)]) := by
  refine ⟨h.isMap.put _ _, fun i hi => ?_, fun k hk => ?_⟩
  · by_cases hlt : i < R.length
    · have hne : keyL R[i].1 ≠ keyL n := keyL_ne (hn _ (List.getElem_mem hlt))
      rw [List.getElem_append_left hlt]
      exact ⟨by rw [Maps.has_put_other hne]; exact (h.hit i hlt).1, fun z => by rw [Maps.atKey_put_other hne]; exact (h.hit i hlt).2 z⟩
    · obtain rfl : i = R.length := by simp at hi; omega
      rw [List.getElem_append_right (Nat.le_refl _)]
      simp only [Nat.sub_self, List.getElem_cons_zero]
      exact ⟨Maps.has_put_same h.isMap (keyL_key _) _, fun z => Maps.atKey_put_same h.isMap (keyL_key _) _ _⟩
  · have hne : keyL k ≠ keyL n := keyL_ne (fun e => hk (n, nm) (by simp) e.symm)
    rw [Maps.has_put_other hne]
    exact h.miss k (fun x hx => hk x (by simp [hx]))
/-- these are met, and no other; each identifier has one name -/
structure Seen (L : List Pe) (R : List Rep) : Prop where
  all : ∀ p ∈ L, (p.ent.id, p.ent.name) ∈ R
  of : ∀ x ∈ R, ∃ p ∈ L, p.ent.id = x.1 ∧ p.ent.name = x.2
  one : ∀ x ∈ R, ∀ y ∈ R, x.1 = y.1 → x = y
theorem Seen.nil : Seen [] [] := ⟨by simp, by simp, by simp⟩
theorem Seen.new {L : List Pe} {R : List Rep} (h : Seen L R) (p : Pe) (hn : ∀ x ∈ R, x.1 ≠ p.ent.id) : Seen (L ++ [p]) (R ++ [(p.ent.id, p.ent.name)]) := by
  refine ⟨fun q hq => ?_, fun x hx => ?_, fun x hx y hy e => ?_⟩
  · rcases List.mem_append.1 hq with hq | hq
    · exact List.mem_append.2 (.inl (h.all q hq))
    · simp at hq; subst hq; simp
  · rcases List.mem_append.1 hx with hx | hx
    · obtain ⟨q, hq, e⟩ := h.of x hx
      exact ⟨q, by simp [hq], e⟩
    · simp at hx; subst hx; exact ⟨p, by simp, rfl, rfl⟩
  · rcases List.mem_append.1 hx with hx | hx <;> rcases List.mem_append.1 hy with hy | hy
    · exact h.one x hx y hy e
    · simp at hy; subst hy; exact (hn x hx e).elim
    · simp at hx; subst hx; exact (hn y hy e.symm).elim
    · simp at hx hy; rw [hx, hy]
theorem Seen.old {L : List Pe} {R : List Rep} (h : Seen L R) (p : Pe) (hp : (p.ent.id, p.ent.name) ∈ R) : Seen (L ++ [p]) R := by
  refine ⟨fun q hq => ?_, fun x hx => ?_, h.one⟩
  · rcases List.mem_append.1 hq with hq | hq
    · exact h.all q hq
    · simp at hq; subst hq; exact hp
  · obtain ⟨q, hq, e⟩ := h.of x hx
    exact ⟨q, by simp [hq], e⟩
theorem Seen.apart {L : List Pe} {R : List Rep} (h : Seen L R) : apartL L = true := by
  refine apart_yes L fun i hi j hj => ?_
  unfold clashD alikeD
  by_cases h1 : L[i].ent.id = L[j].ent.id
  · have h2 := h.one _ (h.all _ (List.getElem_mem hi)) _ (h.all _ (List.getElem_mem hj)) h1
    have h3 : L[i].ent.name = L[j].ent.name := congrArg Prod.snd h2
    simp [h3]
  · simp [h1]
theorem Seen.clash {L all : List Pe} {R : List Rep} (h : Seen L R) (p : Pe) (x : Rep) (hx : x ∈ R) (h1 : x.1 = p.ent.id) (h2 : ¬ x.2 = p.ent.name) (hL : ∀ q ∈ L, q ∈ all) (hp : p ∈ all) : apartL all = false := by
  obtain ⟨q, hq, e1, e2⟩ := h.of x hx
  obtain ⟨i, hi, ei⟩ := List.getElem_of_mem (hL q hq)
  obtain ⟨j, hj, ej⟩ := List.getElem_of_mem hp
  refine apart_no all i j hi hj ?_
  rw [ei, ej]
  unfold clashD alikeD
  rw [decide_eq_true (by rw [e1, h1] : q.ent.id = p.ent.id), decide_eq_false (by rw [e2]; exact h2 : ¬ q.ent.name = p.ent.name)]
  rfl

theorem apart_sub {A B : List Pe} (h : ∀ q ∈ A, q ∈ B) (ha : apartL A = false) : apartL B = false := by
  cases hb : apartL B
  · rfl
  · rw [← ha]
    symm
    unfold apartL at hb ⊢
    rw [List.all_eq_true] at hb ⊢
    intro p hp
    have h1 := hb p (h p hp)
    rw [List.all_eq_true] at h1 ⊢
    exact fun q hq => h1 q (h q hq)

/-- peers whose identifier is one -/
abbrev PeI := { p : Pe // p.ent.id < 18446744073709551616 }
theorem abide' {α : Type} {J : List α → World → Prop} {B : Nat} {A C : World} {l : List α} (h : AbidesFrom B J) (hj : J l A) (hb : Below A.heap.size A C) : J l C :=
  h l A C none hj ⟨hb.os, hb.tape, hb.output, hb.size, fun k hk _ => hb.block k hk⟩ (fun r e => by cases e)
theorem each_stopsI (n : Nat) (hn : 1 ≤ n) (Bn Bx : Nat) (wn w : World) (nd : Nd) (hg : nd.Good wn) (hf : nd.Few) (hI : ∀ p ∈ knownD nd, p.ent.id < 18446744073709551616) (hw : Below wn.heap.size wn w) (hBn : Blk w Bn nd.cells) (hx : Bx < w.heap.size) (hne : Bn ≠ Bx) (hr : ∀ r, rowB w Bx = some r → r < w.heap.size ∧ r ≠ Bn) :
    SeqStopsK Fence.wide n Try.prog 33 #[.pointer (some ⟨Bn, 0, none⟩)] (fun x : PeI => encP x.1) (KpR wn.heap.size Bx) (fun ys => ys.map Subtype.val = allD nd) (fun pre => ∃ r, allD nd = pre.map Subtype.val ++ r) (allD nd).length w := fun lp J Jx W hW hJ hJx hY h0 => by
  have e : rowB W Bx = rowB w Bx := by unfold rowB; rw [hW.cell (p := ⟨Bx, 0, none⟩) hx]
  refine (each33 n hn lp Bn Bx wn nd hg hf (fun p => p.ent.id < 18446744073709551616) hI (fun pre W => ∃ q : List PeI, q.map Subtype.val = pre ∧ J q W) (fun pre W => ∃ q : List PeI, q.map Subtype.val = pre ∧ Jx q W) W (hw.trans (hW.mono hw.size)) (hBn.later hW) (Nat.lt_of_lt_of_le hx hW.size) hne (fun r h => by rw [e] at h; exact ⟨Nat.lt_of_lt_of_le (hr r h).1 hW.size, (hr r h).2⟩)
    (fun s A B row hs hg hr => by obtain ⟨q, hq, hj⟩ := hs; exact ⟨q, hq, hJ q A B row hj hg hr⟩) ?_ ⟨[], rfl, h0⟩).mono ?_
  · rintro pre x W1 hQ ⟨q, hq, hj⟩ hlen
    refine (hY q ⟨x, hQ⟩ W1 hj (by rw [← hq, List.length_map] at hlen; exact hlen)).mono ?_
    rintro e W' (⟨rfl, h1, h2⟩ | ⟨rfl, h1⟩)
    · exact .inl ⟨rfl, ⟨_, by simp [hq], h1⟩, h2⟩
    · exact .inr ⟨rfl, ⟨_, by simp [hq], h1⟩⟩
  · rintro e W' ⟨hv, (⟨ys, rfl, q, hq, hj⟩ | ⟨pre, hp, q, hq, hj⟩)⟩
    · exact ⟨hv, .inl ⟨q, hq, hj⟩⟩
    · subst hq; exact ⟨hv, .inr ⟨q, hp, hj⟩⟩

/-! ### what lies between two rounds -/
def St (b : Nat) (L : List Pe) (W : World) : Prop := ∃ (R : List Rep) (D : DataW Unit) (v : Value), Reps D R ∧ Seen L R ∧ R.length ≤ L.length ∧ Boxed W b 4 (.bool false) ∧ Boxed W (b + 1) 52 v ∧ W.ownsRow (b + 4) 9 1 v R.length (R.flatMap strR) ∧
  Boxed W (b + 1 + 1 + 1) 53 (.map (some (b + 1 + 1))) ∧ W.ownsMap Try.prog 27 (plainElem (H := Unit) Try.prog 3) (b + 1 + 1) R.length D
theorem boxed_far {W W' : World} {row : Option Nat} {B : Nat} {t : TypeId} {v : Value} (h : Boxed W B t v) (hg : W.grownBy W' row) (hr : ∀ r, row = some r → ∃ o : Obj, W.heap[r]? = some o ∧ o.isCells = false) : Boxed W' B t v :=
  h.kept hg (fun e => by obtain ⟨o, ho, hc⟩ := hr B e.symm; rw [show W.heap[B]? = _ from h] at ho; cases ho; cases hc)
theorem St.kept {b : Nat} {L : List Pe} {W W' : World} {row : Option Nat} (h : St b L W) (hg : W.grownBy W' row) (hr : ∀ r, row = some r → b + 4 ≤ r ∧ ∃ o : Obj, W.heap[r]? = some o ∧ o.isCells = false) : St b L W' := by
  obtain ⟨R, D, v, h1, h2, h3, h4, h5, h6, h7, h8⟩ := h
  have hc := fun r e => (hr r e).2
  refine ⟨R, D, v, h1, h2, h3, boxed_far h4 hg hc, boxed_far h5 hg hc, h6.kept hg ?_, boxed_far h7 hg hc, h8.kept hg ?_⟩
  · rcases h6.2 with ⟨rfl, _⟩ | ⟨g, cap, cur, rfl, _, hgb, _⟩
    · exact .inl rfl
    · refine .inr fun e => ?_
      obtain ⟨o, ho, hc2⟩ := hc g (by simpa [Value.ownBlock] using e.symm)
      rw [hgb] at ho; cases ho; cases hc2
  · intro e; have := (hr _ e.symm).1; omega
theorem St.later {b : Nat} {L : List Pe} {W W' : World} (h : St b L W) (hb : Below W.heap.size W W') : St b L W' :=
  h.kept (row := none) ⟨hb.os, hb.tape, hb.output, hb.size, fun k hk _ => hb.block k hk⟩ (fun r e => by cases e)
def Dead (Ds : List Nat) (W : World) : Prop := ∀ D ∈ Ds, W.heap[D]? = some (.deferred (some []))
theorem Dead.later {Ds : List Nat} {W W' : World} (h : Dead Ds W) (hb : Below W.heap.size W W') : Dead Ds W' := fun D hD => (hb.block D (Array.getElem?_eq_some_iff.1 (h D hD)).1).trans (h D hD)
theorem Dead.grown {Ds : List Nat} {W W' : World} {row : Option Nat} (h : Dead Ds W) (hg : W.grownBy W' row) (hr : ∀ r, row = some r → r ∉ Ds) : Dead Ds W' := fun D hD => (hg.block D (Array.getElem?_eq_some_iff.1 (h D hD)).1 (fun e => hr D e.symm hD)).trans (h D hD)
structure AInv (w : World) (L : List Pe) (Ds : List Nat) (W : World) : Prop where
  st : St w.heap.size L W
  ge : ∀ D ∈ Ds, w.heap.size + 4 ≤ D
  dead : Dead Ds W
  nodup : Ds.Nodup
  bel : Below w.heap.size w W
  sz : w.heap.size + 4 ≤ W.heap.size
def nd0 : Nd := ⟨⟨⟨#[]⟩, 0, 0, 0, 0, ⟨#[]⟩⟩, 0, ⟨#[]⟩, 0, ⟨#[]⟩, false, ⟨[], none, 0⟩, ⟨[], none, 0⟩, ⟨[], none, 0⟩, ⟨[], none, 0⟩, ⟨[], none, 0⟩, ⟨[], none, 0⟩, ⟨[], none, 0⟩, 0, 0, none, 0, 0, ⟨[], none, 0⟩⟩
theorem KpR.of_map {n₀ Bx b : Nat} {W W' : World} (hg : W.grownBy W' (some b)) (hb : ∃ o : Obj, W.heap[b]? = some o ∧ o.isCells = false) (hn : n₀ ≤ b) (hx : Bx < W.heap.size) (hne : Bx ≠ b) : KpR n₀ Bx W W' := by
  obtain ⟨o, ho, hc⟩ := hb
  have hlt := (Array.getElem?_eq_some_iff.1 ho).1
  refine ⟨(Below.refl n₀ W).grown hg (by omega) (fun k e => by cases e; exact hn), fun k o2 hk hc2 _ _ => ?_, .inl ?_⟩
  · refine (hg.block k (Array.getElem?_eq_some_iff.1 hk).1 ?_).trans hk
    intro e; cases e; rw [ho] at hk; cases hk; rw [hc] at hc2; cases hc2
  · have hb : W'.heap[Bx]? = W.heap[Bx]? := hg.block Bx hx (by intro e; cases e; exact hne rfl)
    simp only [rowB, World.cell?, hb]

theorem apart11 (l : List Nd) (w : World) (oa : Option Addr) (n c : Nat) (h : RNd w oa n c l) (hf : ∀ p ∈ l, p.Few) (hI : ∀ p ∈ l, ∀ q ∈ knownD p, q.ent.id < 18446744073709551616) (hl : l.length ≤ 10) :
    Calls Try.prog 11 #[.slice oa n c] w fun r w' => r = .returned (.bool (apartD l)) ∧ Below w.heap.size w w' := by
  obtain rfl : n = l.length := h.rows.rows.len
  have H := Lib.hid h; have HF := Lib.hid hf; have HI := Lib.hid hI; have HL := Lib.hid hl
  clear h hf hI hl
  have hmm := @run_makeMap Try.prog
  refine (callsIn_wide (n := 8)).1 ?_
  refine callsIn_of_wp_marks Try.func11 rfl trivial ?_ rfl
  simp only [Try.ntmps11, List.size_toArray, List.length_cons, List.length_nil, Nat.reduceAdd, Nat.reduceSub, Array.replicate_succ, Array.replicate_zero, List.push_toArray, List.append_toArray, List.nil_append, List.cons_append]
  gi_wp2_with fail
  have hB0 : Below w.heap.size w ((((w.alloc (.cells #[.bool false] 4)).alloc (.cells #[.slice none 0 0] 52)).alloc (.map #[] 0)).alloc (.cells #[.map (some (w.heap.size + 1 + 1))] 53)) := ((((Below.refl _ w).alloc (Nat.le_refl _) _).alloc (by simp) _).alloc (by simp; omega) _).alloc (by simp; omega) _
  have hS0 : St w.heap.size [] ((((w.alloc (.cells #[.bool false] 4)).alloc (.cells #[.slice none 0 0] 52)).alloc (.map #[] 0)).alloc (.cells #[.map (some (w.heap.size + 1 + 1))] 53)) := by
    have b1 := (((Boxed.new w 4 (.bool false)).alloc (.cells #[.slice none 0 0] 52)).alloc (.map #[] 0)).alloc (.cells #[.map (some (w.heap.size + 1 + 1))] 53)
    have b2 := ((Boxed.new (w.alloc (.cells #[.bool false] 4)) 52 (.slice none 0 0)).alloc (.map #[] 0)).alloc (.cells #[.map (some (w.heap.size + 1 + 1))] 53)
    have b3 := Boxed.new (((w.alloc (.cells #[.bool false] 4)).alloc (.cells #[.slice none 0 0] 52)).alloc (.map #[] 0)) 53 (.map (some (w.heap.size + 1 + 1)))
    have b4 := (World.ownsMap_made ((w.alloc (.cells #[.bool false] 4)).alloc (.cells #[.slice none 0 0] 52)) Try.prog 27 (plainElem (H := Unit) Try.prog 3)).alloc (.cells #[.map (some (w.heap.size + 1 + 1))] 53)
    simp only [World.size_alloc] at b2 b3 b4
    exact ⟨[], .map [], .slice none 0 0, Reps.nil, Seen.nil, Nat.le_refl _, b1, b2, World.ownsRow_nil _ _ _ _, b3, b4⟩
  have hs0 : ((((w.alloc (.cells #[.bool false] 4)).alloc (.cells #[.slice none 0 0] 52)).alloc (.map #[] 0)).alloc (.cells #[.map (some (w.heap.size + 1 + 1))] 53)).heap.size = w.heap.size + 4 := by simp
  refine wpIn_loop (fun a' wr => ∃ (k : Nat) (u6 u14 u15 u16 u17 u18 u53 : Value) (Ds : List Nat), (k ≤ l.length ∧ AInv w ((l.take k).flatMap allD) Ds wr) ∧ a' = { tmps := #[.slice oa l.length c, undef, .pointer (some ⟨w.heap.size, 0, none⟩), .pointer (some ⟨w.heap.size + 1, 0, none⟩), .pointer (some ⟨w.heap.size + 1 + 1 + 1, 0, none⟩), undef, u6, undef, undef, undef, .map (some (w.heap.size + 1 + 1)), .slice oa l.length c, .int .i64 (l.length : Int), .int .i64 (k : Int), u14, u15, u16, u17, u18, undef, undef, undef, undef, undef, undef, undef, undef, undef, undef, undef, undef, undef, undef, undef, undef, undef, undef, undef, undef, undef, undef, undef, undef, undef, undef, undef, undef, undef, undef, undef, undef, undef, undef, u53], defers := Ds.map mk })
    (fun a' _ => l.length - (intOf (a'.tmps.getD 13 undef)).toNat) ⟨0, undef, undef, undef, undef, undef, undef, undef, [], ⟨Nat.zero_le _, ⟨hS0, by simp, fun D hD => by simp at hD, List.nodup_nil, hB0, by omega⟩⟩, rfl⟩ ?_
  rintro a' wr ⟨k, u6, u14, u15, u16, u17, u18, u53, Ds, ⟨hk, hinv⟩, rfl⟩
  clear hB0 hS0 hs0 hmm
  by_cases hlt : k < l.length
  · have hi1 : (k : Int) < (l.length : Int) := by omega
    have rk : IntKind.i64.wrap ((k : Int) + 1) = ((k + 1 : Nat) : Int) := by
      have h1 := HL.out
      rw [IntKind.wrap_i64]; omega
    have hRR := H.out.below hinv.bel
    have HG := Lib.hid (H.out.good _ (List.getElem_mem hlt))
    have HW := Lib.hid (HF.out _ (List.getElem_mem hlt))
    have HID := Lib.hid (HI.out _ (List.getElem_mem hlt))
    obtain ⟨b1, p1, he1, hA⟩ := hRR.rows.rows.nd hlt
    have HT := Lib.hid (flat_take allD l k hlt)
    have HK : Hid (((l.take k).flatMap allD).length ≤ 1500) := by
      have h1 := flat_le allD l 150 (fun a ha => all_len a (HF.out a ha)) k (by omega)
      have h2 := HL.out
      show _ ≤ _
      omega
    have HSUB : Hid (∀ q, q ∈ (l.take (k + 1)).flatMap allD → q ∈ l.flatMap allD) := fun q hq => by
      obtain ⟨m, hm, hq⟩ := List.mem_flatMap.1 hq
      exact List.mem_flatMap.2 ⟨m, List.mem_of_mem_take hm, hq⟩
    obtain ⟨nd, hs⟩ : ∃ s, l[k] = s := ⟨_, rfl⟩
    rw [hs] at hA HT HG HW HID
    have HA := Lib.hid hA; have HINV := Lib.hid hinv
    subst he1
    clear hs hA hRR hinv
    obtain ⟨L, hL⟩ : ∃ L, (l.take k).flatMap allD = L := ⟨_, rfl⟩
    rw [hL] at HINV HT HK
    clear hL
    have hZ : Blk (wr.alloc (.cells (nd0.cells : List Value).toArray 41)) wr.heap.size nd0.cells := Blk.new' rfl
    have hal : Below wr.heap.size wr (wr.alloc (.cells (nd0.cells : List Value).toArray 41)) := (Below.refl _ _).alloc (Nat.le_refl _) _
    have HZ := Lib.hid hZ; have HAL := Lib.hid hal
    clear hZ hal
    gi_wp2_with (refine stop_loadIn (ty := 41) rfl ?_)
    refine ⟨wpListIn_load_at (by rfl) rfl HA.out (by rfl) row41 ?_⟩
    gi_wp2_with (refine stop_storeIn (ty := 41) rfl ?_)
    refine ⟨wpListIn_store_blk (by rfl) rfl HZ.out (vs := nd.cells) (by rfl) (by rfl) row41 rfl (nd_one _) ?_⟩
    intro W5 hX5 hg5
    have hb5 := Below.grownB HAL.out hg5 (Nat.le_refl _) HAL.out.size
    have HB5 := Lib.hid hb5; have HX5 := Lib.hid hX5
    clear hX5 hg5 hb5 HZ HAL HA
    gi_wp2_with (refine stop_loadIn (ty := 41) rfl ?_)
    refine ⟨wpListIn_load_at (by rfl) rfl HX5.out.at_ (by rfl) row41 ?_⟩
    gi_wp2_with fail
    refine ⟨trivial, callsIn_wide.2 ((each22 nd W5).mono ?_)⟩
    rintro r w1 ⟨rfl, rfl⟩
    gi_wp2_with fail
    have hN0 : Blk (W5.alloc (.cells nd.cells.toArray 41)) W5.heap.size nd.cells := Blk.new' rfl
    have hbw : Below wr.heap.size wr (W5.alloc (.cells nd.cells.toArray 41)) := HB5.out.alloc HB5.out.size _
    have hszW : W5.heap.size + 1 = (W5.alloc (.cells nd.cells.toArray 41)).heap.size := by simp
    have h5r : wr.heap.size ≤ W5.heap.size := HB5.out.size
    obtain ⟨B5, hB5⟩ : ∃ q, W5.heap.size = q := ⟨_, rfl⟩
    obtain ⟨Ws, hWs⟩ : ∃ q, W5.alloc (.cells nd.cells.toArray 41) = q := ⟨_, rfl⟩
    rw [hB5, hWs] at hN0 hszW
    rw [hWs] at hbw
    rw [hB5] at h5r
    rw [hB5, hWs]
    clear hB5 hWs HX5 HB5
    have hinv := HINV.out
    have hst := hinv.st.later hbw
    have hdead := hinv.dead.later hbw
    have hbel : Below w.heap.size w Ws := below_step hinv.bel hbw
    have hrow0 : ∀ r, rowB Ws (w.heap.size + 1) = some r → r < Ws.heap.size ∧ r ≠ B5 := fun r hr => by
      obtain ⟨R, D, v, q1, q2, q3, q4, q5, q6, q7, q8⟩ := hinv.st
      have q5' : Boxed Ws (w.heap.size + 1) 52 v := (hbw.block _ q5.lt).trans q5
      rw [rowB_boxed q5'] at hr
      have := (q6.lt r hr).2
      omega
    have hsr := hinv.sz
    have hds : ∀ D ∈ Ds, D < wr.heap.size := fun D hD => (Array.getElem?_eq_some_iff.1 (hinv.dead D hD)).1
    have HDS := Lib.hid hds
    have HLEN := Lib.hid (all_len nd HW.out)
    clear hds
    refine wpIn_rangeFunc_ownH rfl (by omega) (gf := 33) (lb := #[.pointer (some ⟨B5, 0, none⟩)]) rfl trivial (enters_of Try.func33 (by kernel_rfl) rfl)
      (each_stopsI 7 (by omega) B5 (w.heap.size + 1) w Ws nd HG.out HW.out HID.out hbel hN0 (by omega) (by omega) hrow0) KpR.trans (KpR.putObj (by omega) (by omega)) (Below.refl _ _) (fun _ => rfl)
      (fun pre W => St w.heap.size (L ++ pre.map Subtype.val) W ∧ Dead Ds W ∧ Below w.heap.size w W ∧ Ws.heap.size ≤ W.heap.size)
      (fun cd pre W => (cd = .ret ∧ apartL (L ++ pre.map Subtype.val) = false ∧ Boxed W w.heap.size 4 (.bool false)) ∧ Dead Ds W ∧ Below w.heap.size w W ∧ Ws.heap.size ≤ W.heap.size)
      (OwnFrom.and (fun q A B row hs hg hr => hs.kept hg (fun r e => ⟨by have := (hr r e).1; omega, (hr r e).2⟩)) (OwnFrom.and (fun q A B row hs hg hr => hs.grown hg (fun r e hm => by have h1 := (hr r e).1; have h2 := HDS.out r hm; omega)) (OwnFrom.and (ownFrom_below (Nat.le_refl _) (by omega)) (size_own _ _))))
      (fun cd => OwnFrom.and (fun q A B row hs hg hr => ⟨hs.1, hs.2.1, boxed_far hs.2.2 hg (fun r e => (hr r e).2)⟩) (OwnFrom.and (fun q A B row hs hg hr => hs.grown hg (fun r e hm => by have h1 := (hr r e).1; have h2 := HDS.out r hm; omega)) (OwnFrom.and (ownFrom_below (Nat.le_refl _) (by omega)) (size_own _ _))))
      ⟨by simpa using hst, hdead, hbel, Nat.le_refl _⟩
      (fun x a' W => ∃ Bp, B5 < Bp ∧ Blk W Bp x.1.cells ∧ a' = { tmps := #[.slice (some ⟨b1, p1, none⟩) l.length c, undef, .pointer (some ⟨w.heap.size, 0, none⟩), .pointer (some ⟨w.heap.size + 1, 0, none⟩), .pointer (some ⟨w.heap.size + 1 + 1 + 1, 0, none⟩), undef, .pointer (some ⟨wr.heap.size, 0, none⟩), .pointer (some ⟨Bp, 0, none⟩), undef, undef, .map (some (w.heap.size + 1 + 1)), .slice (some ⟨b1, p1, none⟩) l.length c, .int .i64 (l.length : Int), .int .i64 (k : Int), .bool true, .pointer (some ⟨b1, p1 + k * 22, none⟩), .agg nd.cells.toArray, .agg nd.cells.toArray, .func (.func 33) #[] #[.pointer (some ⟨B5, 0, none⟩)], .agg x.1.cells.toArray, undef, undef, undef, undef, undef, undef, undef, undef, undef, undef, undef, undef, undef, undef, undef, undef, undef, undef, undef, undef, undef, undef, undef, undef, undef, undef, undef, undef, undef, undef, undef, undef, undef, u53], defers := [] })
      (fun x a' _ X Y row hs hg hr => by obtain ⟨Bp, h1, h2, h3⟩ := hs; exact ⟨Bp, h1, blk_own Bp (fun (_ : Unit) => x.1.cells) (by simp [Pe.cells, En.cells]) () X Y row h2 hg (fun r e => (hr r e).2), h3⟩)
      ?assign ?body ?done ?stop
    case assign =>
      rintro lp pre ⟨s, hid⟩ W K ⟨hS, hD, hB, hZ⟩ hK
      have hZ8 : Blk (W.alloc (.cells ([.string ⟨#[]⟩, .int .u64 0, .int .i64 0, .int .i64 0, .int .i64 0, .string ⟨#[]⟩, .int .i64 0, .int .i64 0] : List Value).toArray 50)) W.heap.size [.string ⟨#[]⟩, .int .u64 0, .int .i64 0, .int .i64 0, .int .i64 0, .string ⟨#[]⟩, .int .i64 0, .int .i64 0] := Blk.new' rfl
      have hal : Below W.heap.size W (W.alloc (.cells ([.string ⟨#[]⟩, .int .u64 0, .int .i64 0, .int .i64 0, .int .i64 0, .string ⟨#[]⟩, .int .i64 0, .int .i64 0] : List Value).toArray 50)) := (Below.refl _ _).alloc (Nat.le_refl _) _
      have HK2 := Lib.hid hK; have HI2 := Lib.hid (And.intro hS (And.intro hD (And.intro hB hZ))); have HZ := Lib.hid hZ8; have HAL := Lib.hid hal
      clear hK hS hD hB hZ hZ8 hal hN0 hbw hst hdead hbel hrow0 hinv
      simp only [encP]
      gi_wp2_with (refine stop_storeIn (ty := 50) rfl ?_)
      refine ⟨wpListIn_store_blk (by rfl) rfl HZ.out (by rfl) (vs := s.cells) (by rfl) row50 rfl (pe_one _) ?_⟩
      intro W7 hX7 hg7
      have hb7 := Below.grownB HAL.out hg7 (Nat.le_refl _) HAL.out.size
      have hI2 := HI2.out
      gi_wp2
      obtain ⟨hS, hD, hB, hZ⟩ := hI2
      refine HK2.out _ _ ((keeps_below hb7).from _) (KpR.of_below hB.size (by omega) hb7) ⟨hS.later hb7, hD.later hb7, hB.trans (hb7.mono hB.size), Nat.le_trans hZ hb7.size⟩ ⟨W.heap.size, by omega, hX7, rfl⟩
    case body =>
      rintro lp pre ⟨s, hid⟩ a' W hl ⟨r, hr⟩ ⟨hS, hD, hB, hZ⟩ ⟨Bp, hBp, hX, rfl⟩ hlen
      clear hN0 hbw hst hdead hbel hrow0 hinv hl hr
      obtain ⟨R, D, v, q1, q2, q3, q4, q5, q6, q7, q8⟩ := hS
      have x0 : W.cell? ⟨Bp, 0, none⟩ = some (.string s.ent.name) := pe_at hX 0 (by omega)
      have x1 : W.cell? ⟨Bp, 1, none⟩ = some (.int .u64 (s.ent.id : Int)) := pe_at hX 1 (by omega)
      have xl := hX.lt
      have c4 := q7.cell; have l4 := q7.lt
      have c3 := q5.cell; have l3 := q5.lt; have f3 := q5.frozen
      have c2 := q4.cell; have l2 := q4.lt; have f2 := q4.frozen
      have hwf : (Lit.int .u64 (s.ent.id : Int)).wf = true := by simp [Lit.wf, IntKind.min, IntKind.max, IntKind.signed, IntKind.bits]; omega
      have hkey : keyOf Try.prog 27 (.int .u64 (s.ent.id : Int)) = some (keyL s.ent.id) := Maps.keyOf_int_mk Try.underlying27 hwf
      have HKEY := Lib.hid hkey
      have HX := Lib.hid hX; have HDE := Lib.hid hD; have HB := Lib.hid hB; have HZ := Lib.hid hZ
      have Q1 := Lib.hid q1; have Q2 := Lib.hid q2; have Q3 := Lib.hid q3; have Q4 := Lib.hid q4; have Q5 := Lib.hid q5; have Q6 := Lib.hid q6; have Q7 := Lib.hid q7; have Q8 := Lib.hid q8
      have HPL := Lib.hid hlen
      obtain ⟨sr, sc, hvs, hR⟩ : ∃ oa cc, v = .slice oa R.length cc ∧ Rws strR W oa R.length cc R := (⟨q6⟩ : Own W (w.heap.size + 4) 9 1 v R.length (R.flatMap strR)).rws rfl
      subst hvs
      have HR := Lib.hid hR
      clear hX hD hB hZ q1 q2 q3 q4 q5 q6 q7 q8 hwf hkey hlen hR
      by_cases hmem : ∃ i, ∃ hi : i < R.length, R[i].1 = s.ent.id
      · obtain ⟨i, hi, he⟩ := hmem
        have hh : Maps.has D (keyL s.ent.id) = true := by rw [← he]; exact (Q1.out.hit i hi).1
        have HAT : Hid (∀ z, D.atKey (keyL s.ent.id) z = .lit (.int .i64 (i : Int))) := by rw [← he]; exact (Q1.out.hit i hi).2
        gi_wp2_with (refine stop_lookupIn (t := 53) rfl ?_)
        refine ⟨wpListIn_lookup_own_ok_int _ rfl _ _ 53 rfl 27 3 .i64 (Maps.int_keyed Try.underlying27) Try.underlying53 Try.underlying3 (Try.zeroValue3 _) (w.heap.size + 1 + 1) R.length D rfl Q8.out _ _ rfl HKEY.out ?_⟩
        intro cc hat hwc
        rw [HAT.out] at hat
        have hcc : (i : Int) = cc := by injection hat with e1; injection e1
        clear hat hwc
        subst hcc
        rw [hh]
        clear hh HAT
        gi_wp2_with fail
        obtain ⟨b2, p2, rfl, hA2⟩ := HR.out.rows.at_ (k := 1) (fun _ => rfl) (by omega) hi
        obtain ⟨rp, hrp⟩ : ∃ q, R[i] = q := ⟨_, rfl⟩
        rw [hrp] at he hA2
        have y0 : W.cell? ⟨b2, p2 + i, none⟩ = some (.string rp.2) := by have h := hA2.get 0 (by simp [strR]); rw [Nat.mul_one] at h; exact h
        have yl := hA2.lt
        have hi1' : (i : Int) < (R.length : Int) := by omega
        have HMEM : Hid (rp ∈ R) := by rw [← hrp]; exact List.getElem_mem hi
        clear hA2 hrp
        by_cases hnm : rp.2 = s.ent.name
        · have hn' : (rp.2.toList == s.ent.name.toList) = true := by rw [hnm]; simp
          refine wpIn_region_round (by kernel_rfl) (by kernel_rfl) (by kernel_rfl) ?_
          repeat (gi_big_quiet_step (fail))
          refine wpQuietIn_nil ?_
          rintro _ ⟨nq, rfl⟩
          have hb : Below W.heap.size W (W.drewN nq) := Below.drewN' (Below.refl _ _) nq
          obtain ⟨W2, hW2⟩ : ∃ q, W.drewN nq = q := ⟨_, rfl⟩
          rw [hW2] at hb ⊢
          clear hW2
          have z4 : Boxed W2 (w.heap.size + 1 + 1 + 1) 53 (.map (some (w.heap.size + 1 + 1))) := (hb.block _ Q7.out.lt).trans Q7.out
          have z3 : Boxed W2 (w.heap.size + 1) 52 _ := (hb.block _ Q5.out.lt).trans Q5.out
          have z2 : Boxed W2 w.heap.size 4 (.bool false) := (hb.block _ Q4.out.lt).trans Q4.out
          have zm := Q8.out.kept (row := none) ⟨hb.os, hb.tape, hb.output, hb.size, fun k hk _ => hb.block k hk⟩ (by simp)
          have zr := (Own.later ⟨Q6.out⟩ hb).row
          have hX2 := HX.out.later hb
          have HDE2 := Lib.hid (HDE.out.later hb)
          have HB2 := Lib.hid (HB.out.trans (hb.mono HB.out.size))
          have HW2 := Lib.hid hb
          have HST : Hid (St w.heap.size (L ++ (pre ++ [(⟨s, hid⟩ : PeI)]).map Subtype.val) W2) := by
            refine ⟨R, D, _, Q1.out, ?_, ?_, z2, z3, zr, z4, zm⟩
            · have h := Q2.out.old s (by rw [← he, ← hnm]; exact HMEM.out)
              simpa using h
            · have := Q3.out; simp only [List.length_append, List.length_map] at this ⊢; omega
          clear x0 x1 xl c4 l4 c3 l3 f3 c2 l2 f2 y0 yl hi1' hn' z4 z3 z2 zm zr hX2 hb
          gi_wp2
          exact ⟨(keeps_below HW2.out).from _, KpR.of_below HB.out.size Q5.out.lt HW2.out, HST.out, HDE2.out, HB2.out, Nat.le_trans HZ.out HW2.out.size⟩
        · have hn' : (rp.2.toList == s.ent.name.toList) = false := strne hnm
          refine wpIn_region_round (by kernel_rfl) (by kernel_rfl) (by kernel_rfl) ?_
          repeat (gi_big_quiet_step (fail))
          refine wpQuietIn_nil ?_
          rintro _ ⟨nq, rfl⟩
          have hb : Below W.heap.size W (W.drewN nq) := Below.drewN' (Below.refl _ _) nq
          obtain ⟨W2, hW2⟩ : ∃ q, W.drewN nq = q := ⟨_, rfl⟩
          rw [hW2] at hb ⊢
          clear hW2
          have z4 : Boxed W2 (w.heap.size + 1 + 1 + 1) 53 (.map (some (w.heap.size + 1 + 1))) := (hb.block _ Q7.out.lt).trans Q7.out
          have z3 : Boxed W2 (w.heap.size + 1) 52 _ := (hb.block _ Q5.out.lt).trans Q5.out
          have z2 : Boxed W2 w.heap.size 4 (.bool false) := (hb.block _ Q4.out.lt).trans Q4.out
          have zm := Q8.out.kept (row := none) ⟨hb.os, hb.tape, hb.output, hb.size, fun k hk _ => hb.block k hk⟩ (by simp)
          have zr := (Own.later ⟨Q6.out⟩ hb).row
          have hX2 := HX.out.later hb
          have HDE2 := Lib.hid (HDE.out.later hb)
          have HB2 := Lib.hid (HB.out.trans (hb.mono HB.out.size))
          have HW2 := Lib.hid hb
          have HCL : Hid (apartL (L ++ (pre ++ [(⟨s, hid⟩ : PeI)]).map Subtype.val) = false) :=
            Q2.out.clash s rp HMEM.out he hnm (fun q hq => by
              rcases List.mem_append.1 hq with h | h
              · exact List.mem_append.2 (.inl h)
              · refine List.mem_append.2 (.inr ?_); rw [List.map_append]; exact List.mem_append.2 (.inl h)) (by simp)
          have Z2 := Lib.hid z2
          clear x0 x1 xl c4 l4 c3 l3 f3 c2 l2 f2 y0 yl hi1' hn' z4 z3 zm zr hX2 hb
          have c2 := z2.cell; have l2 := z2.lt; have f2 := z2.frozen
          clear z2
          gi_wp2
          have hset := Z2.out.set (.bool false)
          have hko := (keeps_below HW2.out).trans (KeepsOthers.setCell W2 ⟨w.heap.size, 0, none⟩ (.bool false))
          refine ⟨hko.from _, ⟨rfl, HCL.out, hset⟩, fun D' hD' => hko.same _ _ (HDE.out D' hD') rfl, HB2.out.setCell (p := ⟨w.heap.size, 0, none⟩) (Nat.le_refl _) _, Nat.le_trans HZ.out hko.size⟩
      · have hmiss : ∀ x ∈ R, x.1 ≠ s.ent.id := fun x hx e => by
          obtain ⟨i, hi, ei⟩ := List.getElem_of_mem hx
          exact hmem ⟨i, hi, by rw [ei]; exact e⟩
        have hh : Maps.has D (keyL s.ent.id) = false := Q1.out.miss _ hmiss
        have HMISS := Lib.hid hmiss
        clear hmem hmiss
        gi_wp2_with (refine stop_lookupIn (t := 53) rfl ?_)
        refine ⟨wpListIn_lookup_own_ok_int _ rfl _ _ 53 rfl 27 3 .i64 (Maps.int_keyed Try.underlying27) Try.underlying53 Try.underlying3 (Try.zeroValue3 _) (w.heap.size + 1 + 1) R.length D rfl Q8.out _ _ rfl HKEY.out ?_⟩
        intro cc hat hwc
        rw [hh]
        clear hh hat hwc
        gi_wp2_with fail
        refine wpIn_region_round (by kernel_rfl) (by kernel_rfl) (by kernel_rfl) ?_
        repeat (gi_big_quiet_step (fail))
        refine wpQuietIn_nil ?_
        rintro _ ⟨nq, rfl⟩
        have hb : Below W.heap.size W (W.drewN nq) := Below.drewN' (Below.refl _ _) nq
        obtain ⟨W2, hW2⟩ : ∃ q, W.drewN nq = q := ⟨_, rfl⟩
        rw [hW2] at hb ⊢
        clear hW2
        have z4 : Boxed W2 (w.heap.size + 1 + 1 + 1) 53 (.map (some (w.heap.size + 1 + 1))) := (hb.block _ Q7.out.lt).trans Q7.out
        have z3 : Boxed W2 (w.heap.size + 1) 52 _ := (hb.block _ Q5.out.lt).trans Q5.out
        have z2 : Boxed W2 w.heap.size 4 (.bool false) := (hb.block _ Q4.out.lt).trans Q4.out
        have zm := Q8.out.kept (row := none) ⟨hb.os, hb.tape, hb.output, hb.size, fun k hk _ => hb.block k hk⟩ (by simp)
        have zr := (Own.later ⟨Q6.out⟩ hb).row
        have hX2 := HX.out.later hb
        have HDE2 := Lib.hid (HDE.out.later hb)
        have HB2 := Lib.hid (HB.out.trans (hb.mono HB.out.size))
        have HW2 := Lib.hid hb
        have x0 : W2.cell? ⟨Bp, 0, none⟩ = some (.string s.ent.name) := pe_at hX2 0 (by omega)
        have x1 : W2.cell? ⟨Bp, 1, none⟩ = some (.int .u64 (s.ent.id : Int)) := pe_at hX2 1 (by omega)
        have xl := hX2.lt
        have c4 := z4.cell; have l4 := z4.lt
        have c3 := z3.cell; have l3 := z3.lt
        have Z4 := Lib.hid z4; have Z3 := Lib.hid z3; have Z2 := Lib.hid z2; have ZM := Lib.hid zm; have ZR := Lib.hid zr; have HX2 := Lib.hid hX2
        have hRL : R.length ≤ 1650 := by
          have h1 := Q3.out; have h2 := HK.out; have h3 := HPL.out; have h4 := HLEN.out
          simp only [List.length_append, List.length_map] at h1
          omega
        have HRL := Lib.hid hRL
        clear hb z4 z3 z2 zm zr hX2 f3 c2 l2 f2 hRL
        gi_wp2_with (refine stop_updateIn (t := 53) rfl ?_)
        refine ⟨wpListIn_mapUpdate_own _ rfl _ _ _ 53 rfl 27 3 (Maps.int_keyed Try.underlying27) Try.underlying53 _ (w.heap.size + 1 + 1) R.length _ rfl ZM.out (by have := HRL.out; simp [maxLen]; omega) _ _ _ rfl rfl HKEY.out _ [] (plainElem_int Try.underlying3 (by have := HRL.out; simp [Lit.wf, IntKind.min, IntKind.max, IntKind.signed, IntKind.bits]; omega)) ?_⟩
        intro W3 hown3 hgrow3
        have h23 : W2.heap.size ≤ W3.heap.size := hgrow3.size
        have v4 : Boxed W3 (w.heap.size + 1 + 1 + 1) 53 (.map (some (w.heap.size + 1 + 1))) := Z4.out.kept hgrow3 (by intro e; have h := Option.some.inj e; omega)
        have v3 : Boxed W3 (w.heap.size + 1) 52 (.slice sr R.length sc) := Z3.out.kept hgrow3 (by intro e; have h := Option.some.inj e; omega)
        have v2 : Boxed W3 w.heap.size 4 (.bool false) := Z2.out.kept hgrow3 (by intro e; have h := Option.some.inj e; omega)
        have vr : Own W3 (w.heap.size + 4) 9 1 (.slice sr R.length sc) R.length (R.flatMap strR) := ⟨ZR.out.kept hgrow3 (.inr (fun e => by have := (ZR.out.lt _ e).1; omega))⟩
        have vx : Blk W3 Bp s.cells := HX2.out.grown hgrow3 (by intro e; have h := Option.some.inj e; omega)
        have vs3 : w.heap.size + 4 ≤ W3.heap.size := by have h1 := HW2.out.size; have h2 := HZ.out; omega
        have y0 : W3.cell? ⟨Bp, 0, none⟩ = some (.string s.ent.name) := pe_at vx 0 (by omega)
        have yl := vx.lt
        have hal2 : Below W3.heap.size W3 (W3.alloc (.cells #[.string s.ent.name] 9)) := (Below.refl _ _).alloc (Nat.le_refl _) _
        have hN3 : Blk (W3.alloc (.cells #[.string s.ent.name] 9)) W3.heap.size [.string s.ent.name] := Blk.new' (cs := [.string s.ent.name]) rfl
        have HAL := Lib.hid hal2; have HN3 := Lib.hid hN3
        have V4 := Lib.hid v4; have V3 := Lib.hid v3; have V2 := Lib.hid v2; have VR := Lib.hid vr; have VM := Lib.hid hown3; have VG := Lib.hid hgrow3; have VS := Lib.hid vs3
        clear x0 x1 xl c4 l4 c3 l3 v4 v2 vr vx vs3 hown3 hgrow3 hal2 hN3 h23
        have c3 := v3.cell; have l3 := v3.lt
        clear v3
        gi_wp2_with (refine stop_appendIn rfl ?_)
        refine ⟨wpListIn_app_at el52 rfl rfl (by rfl) (VR.out.later HAL.out) (by rfl) (m := 1) (cs := [.string s.ent.name]) rfl HN3.out.cells (by simp [Value.oneCell']) (by omega) (by have := HRL.out; simp [maxLen]; omega) (by have := HRL.out; omega) (Nat.le_trans VS.out HAL.out.size) ?_⟩
        intro g cap W7 hO7 hg7 hat
        obtain ⟨hv7, hv8, hO8, hko, hkp⟩ := appended_kp (n₀ := w.heap.size) V3.out (by decide) VR.out (by omega) (by omega) (Nat.le_trans (Nat.le_add_right _ _) VS.out) HAL.out hg7 hat hO7
        have HV8 := Lib.hid hv8; have HO8 := Lib.hid hO8; have HKO := Lib.hid hko; have HKP := Lib.hid hkp
        clear hv8 hO8 hko hkp hO7 hg7 hat c3 l3 y0 yl
        have c7 := hv7.cell; have f7 := hv7.frozen; have l7 := hv7.lt
        clear hv7
        gi_wp2
        have hko := HKO.out; have hkp := HKP.out
        have hrowne : ∀ k, k < w.heap.size + 4 → rowB W3 (w.heap.size + 1) ≠ some k := fun k hk e => by
          rw [rowB_boxed V3.out] at e
          have := (VR.out.row.lt _ e).1
          omega
        have e2 : Boxed (W7.setCell ⟨w.heap.size + 1, 0, none⟩ (.slice (some ⟨g, 0, none⟩) (R.length + 1) cap)) w.heap.size 4 (.bool false) := hkp.kept _ _ V2.out rfl (by omega) (hrowne _ (by omega))
        have e4 : Boxed (W7.setCell ⟨w.heap.size + 1, 0, none⟩ (.slice (some ⟨g, 0, none⟩) (R.length + 1) cap)) (w.heap.size + 1 + 1 + 1) 53 (.map (some (w.heap.size + 1 + 1))) := hkp.kept _ _ V4.out rfl (by omega) (hrowne _ (by omega))
        have em : (W7.setCell ⟨w.heap.size + 1, 0, none⟩ (.slice (some ⟨g, 0, none⟩) (R.length + 1) cap)).ownsMap Try.prog 27 (plainElem (H := Unit) Try.prog 3) (w.heap.size + 1 + 1) (R.length + 1) (D.put (keyL s.ent.id) (.lit (.int .i64 (R.length : Int)))) := by
          obtain ⟨es, ck, hh, hrest⟩ := VM.out
          exact ⟨es, ck, hko.same _ _ hh rfl, hrest⟩
        have hmapb : ∃ o : Obj, W2.heap[w.heap.size + 1 + 1]? = some o ∧ o.isCells = false := by
          obtain ⟨es, ck, hh, -⟩ := ZM.out
          exact ⟨_, hh, rfl⟩
        have hkp2 : KpR w.heap.size (w.heap.size + 1) W2 W3 := KpR.of_map VG.out hmapb (by omega) Z3.out.lt (by omega)
        have hkpA : KpR w.heap.size (w.heap.size + 1) W (W7.setCell ⟨w.heap.size + 1, 0, none⟩ (.slice (some ⟨g, 0, none⟩) (R.length + 1) cap)) := (KpR.of_below HB.out.size Q5.out.lt HW2.out).trans (hkp2.trans hkp)
        have hdead3 : Dead Ds W3 := HDE2.out.grown VG.out (fun r e hm => by have h := Option.some.inj e; have := HINV.out.ge _ hm; omega)
        refine ⟨((keeps_below HW2.out).from _).trans ((KeepsFrom.of_grownBy VG.out (fun j e => by have h := Option.some.inj e; omega)).trans (hko.from _)), hkpA, ⟨R ++ [(s.ent.id, s.ent.name)], _, _, Q1.out.put _ s.ent.name HMISS.out, ?_, ?_, e2, HV8.out, ?_, e4, ?_⟩, fun D' hD' => hko.same _ _ (hdead3 D' hD') rfl, HB.out.trans hkpA.below, Nat.le_trans HZ.out hkpA.below.size⟩
        · have h := Q2.out.new s HMISS.out
          simpa using h
        · have := Q3.out; simp only [List.length_append, List.length_map, List.length_cons, List.length_nil] at this ⊢; omega
        · have h := HO8.out.row
          simpa [strR] using h
        · simpa using em
    case done =>
      rintro D ys W hD hys ⟨hS, hDe, hB, hZ⟩ hK
      have HI3 : Hid (AInv w ((l.take (k + 1)).flatMap allD) (D :: Ds) W) := by
        have hv := HINV.out
        refine ⟨by rw [HT.out, ← hys]; exact hS, fun D' hD' => ?_, fun D' hD' => ?_, List.nodup_cons.2 ⟨fun hm => ?_, hv.nodup⟩, hB, by omega⟩
        · rcases List.mem_cons.1 hD' with rfl | h
          · omega
          · exact hv.ge _ h
        · rcases List.mem_cons.1 hD' with rfl | h
          · exact hK
          · exact hDe _ h
        · have := HDS.out _ hm; omega
      clear hN0 hbw hst hdead hbel hrow0 hinv hS hDe hB hZ hK hys hD
      gi_wp2_with fail
      refine ⟨?_, ?measO⟩
      rotate_left
      · (simp [intOf]) <;> omega
      exact ⟨k + 1, _, _, _, _, _, _, _, D :: Ds, ⟨by omega, HI3.out⟩, rfl⟩
    case stop =>
      rintro D cd pre W hD hp ⟨⟨rfl, hap, h4⟩, hDe, hB, hZ⟩ hK
      clear hN0 hbw hst hdead hbel hrow0
      gi_wp2
      have hge : ∀ D' ∈ D :: Ds, w.heap.size + 4 ≤ D' := fun D' hD' => by
        rcases List.mem_cons.1 hD' with rfl | h
        · omega
        · exact hinv.ge _ h
      refine leaves_marks (D :: Ds) W (fun D' hD' => ?_) (List.nodup_cons.2 ⟨fun hm => ?_, hinv.nodup⟩) (fun W' hm => ?_)
      · rcases List.mem_cons.1 hD' with rfl | h
        · exact hK
        · exact hDe _ h
      · have := HDS.out _ hm; omega
      · have h4' : Boxed W' w.heap.size 4 (.bool false) := (hm.block _ (fun hx => by have := hge _ hx; omega)).trans h4
        have c4 := h4'.cell
        have hapl : apartD l = false := by
          obtain ⟨rr, hrr⟩ := hp
          refine apart_sub (fun q hq => HSUB.out q ?_) hap
          rw [HT.out, hrr]
          rcases List.mem_append.1 hq with h | h
          · exact List.mem_append.2 (.inl h)
          · exact List.mem_append.2 (.inr (List.mem_append.2 (.inl h)))
        refine ⟨.bool false, by simp [results, Try.results11, go_sem, c4], by rw [hapl], hB.trans ?_⟩
        exact marked_below hm hge (by omega)
  · obtain rfl : k = l.length := by omega
    rw [List.take_length] at hinv
    obtain ⟨R, D, v, h1, h2, h3, h4, h5, h6, h7, h8⟩ := hinv.st
    have HAP : Hid (apartD l = true) := h2.apart
    have HINV := Lib.hid hinv
    have c4 := h4.cell; have f4 := h4.frozen; have l4 := h4.lt
    have H4 := Lib.hid h4
    clear h1 h2 h3 h4 h5 h6 h7 h8 hinv
    gi_wp2
    have hinv := HINV.out
    have hdt : Dead Ds (wr.setCell ⟨w.heap.size, 0, none⟩ (.bool true)) := fun D hD => (Below.heap_setCell wr ⟨w.heap.size, 0, none⟩ _ D (by intro e; have := hinv.ge D hD; simp at e; omega)).trans (hinv.dead D hD)
    have h4t := H4.out.set (.bool true)
    refine leaves_marks Ds _ hdt hinv.nodup (fun W' hm => ?_)
    have h4' : Boxed W' w.heap.size 4 (.bool true) := (hm.block _ (fun hx => by have := hinv.ge _ hx; omega)).trans h4t
    have c4 := h4'.cell
    refine ⟨.bool true, by simp [results, Try.results11, go_sem, c4], by rw [HAP.out], (hinv.bel.setCell (p := ⟨w.heap.size, 0, none⟩) (Nat.le_refl _) (.bool true)).trans (marked_below hm hinv.ge (by omega))⟩
end Go.Proofs.Ythdkgcmoagookaa
