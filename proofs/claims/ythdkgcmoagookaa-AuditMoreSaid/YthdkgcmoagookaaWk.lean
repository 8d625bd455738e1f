/-
  Walks: all peers that a node knows, one by one (an iterator).
-/
import Derived.RangeFuncNested
import Derived.RangeFuncBound
import Derived.RangeFuncCalls
import Derived.RangeFuncLeaves
import Derived.Shelf.Abstract
import Derived.Shelf.RegionOpen
import Derived.OwnWalkIn
import Derived.TacticsInMore
import Derived.LoopNIn
import Derived.LoopIn
import Derived.Test.YthdkgcmoagookaaWj
namespace Go.Proofs.Ythdkgcmoagookaa
open Go.RowKit Go.Shelf Go.Proofs.Ythdkgcmoagookaa.Plan Go.Proofs.Ythdkgcmoagookaa.Eager
set_option maxHeartbeats 4000000
set_option maxRecDepth 20000
set_option linter.unusedVariables false
set_option linter.unusedSimpArgs false
attribute [local go_sem] Oper.semAt_some

section
variable {F : Fence} {n : Nat} {P : Program} {w : World} {ops : Array Oper} {rest : List Oper} {o : Oper} {a : Act} {Q : Exit → Act → World → Prop}
theorem stop_loadIn {x : Operand} {ty : TypeId} (_ : o.op = .load ty x) (h : Stop (wpListIn F n P ops Q (o :: rest) a w)) : wpListIn F n P ops Q (o :: rest) a w := h.out
theorem stop_storeIn {x y : Operand} {ty : TypeId} (_ : o.op = .store ty x y) (h : Stop (wpListIn F n P ops Q (o :: rest) a w)) : wpListIn F n P ops Q (o :: rest) a w := h.out
theorem wpListIn_load_at (hw : Region.wanted o (yielded ops a.tmps) = true) {ty : TypeId} {x : Operand} (ho : o.op = .load ty x) {b off : Nat} {cs : List Value} (hB : At w b off cs) (hx : a.eval x = .pointer (some ⟨b, off, none⟩)) (hT : RowTy P ty cs.length)
    (h : wpListIn F n P ops Q rest (a.put o.dst (.agg cs.toArray)) w) : wpListIn F n P ops Q (o :: rest) a w := by
  refine Go.BigFrame.wpListIn_want hw fun K hK => ?_
  have hr := run_load_at (P := P) ho hB hx hT
  unfold Oper.wpIn
  refine ⟨fun f hf => by simp [Oper.about, ho] at hf, ?_⟩
  rw [Oper.semAt_plain F _ _ (by rw [ho]; intro c hc'; cases hc'), hr]
  exact hK _ _ h
theorem wpListIn_store_blk (hw : Region.wanted o (yielded ops a.tmps) = true) {ty : TypeId} {x y : Operand} (ho : o.op = .store ty x y) {b : Nat} {cs vs : List Value} (hB : Blk w b cs) (hx : a.eval x = .pointer (some ⟨b, 0, none⟩)) (hy : a.eval y = .agg vs.toArray)
    (hT : RowTy P ty vs.length) (hl : vs.length = cs.length) (h1 : ∀ v ∈ vs, v.oneCell' = true)
    (h : ∀ w', Blk w' b vs → w.grownBy w' (some b) → wpListIn F n P ops Q rest (a.put o.dst undef) w') : wpListIn F n P ops Q (o :: rest) a w := by
  refine Go.BigFrame.wpListIn_want hw fun K hK => ?_
  have ht : w.there b 0 vs.toArray.size := fun j hj => ⟨by rw [Nat.zero_add, hB.at' j (by simpa [hl] using hj)]; rfl, hB.froz _⟩
  have hr := run_storeVar_mid (P := P) w b 0 ty vs.toArray ht (by simpa using hT.size) (all_oneCell_toArray h1)
  unfold Oper.wpIn
  refine ⟨fun f hf => by simp [Oper.about, ho] at hf, ?_⟩
  rw [Oper.semAt_plain F _ _ (by rw [ho]; intro c hc'; cases hc')]
  unfold execOp
  simp only [ho, hx, hy, Instr.storeAt, Instr.sureAddr, Sem.run_bind, Sem.run_pure, Result.andThen_ok, hr]
  exact hK _ _ (h _ (by simpa using hB.setAll hl) (setCells_grown b _ 0 w))
end
theorem Blk.isCells {W : World} {b : Nat} {cs : List Value} (h : Blk W b cs) (h0 : 0 < cs.length) {o : Obj} (ho : W.heap[b]? = some o) (hc : o.isCells = false) : False := by
  have := h.at' 0 h0
  simp only [World.cell?, ho] at this
  cases o <;> simp_all [Obj.isCells]
theorem blk_own {β : Type} (b : Nat) (f : β → List Value) (h0 : ∀ s, 0 < (f s).length) : Go.Own (fun s W => Blk W b (f s)) := fun s X Y row hs hg hrow =>
  hs.grown hg (fun e => by obtain ⟨o, ho, hc⟩ := hrow b e; exact hs.isCells (h0 s) ho hc)
theorem keeps_below {W W' : World} (h : Below W.heap.size W W') : KeepsOthers W W' := ⟨h.size, fun k o hk _ => (h.block k (Array.getElem?_eq_some_iff.1 hk).1).trans hk⟩

/-- the block in which the slice lies that a box holds -/
def rowB (W : World) (Bx : Nat) : Option Nat := (W.cell? ⟨Bx, 0, none⟩).bind Value.ownBlock
/-- what a round keeps: all but the box, and the slice's row that it holds -/
structure KpR (n₀ Bx : Nat) (A B : World) : Prop where
  below : Below n₀ A B
  kept : ∀ k o, A.heap[k]? = some o → o.isCells = true → k ≠ Bx → rowB A Bx ≠ some k → B.heap[k]? = some o
  row : rowB B Bx = rowB A Bx ∨ ∀ g, rowB B Bx = some g → A.heap.size ≤ g
theorem KpR.trans {n₀ Bx : Nat} {A B C : World} (h : KpR n₀ Bx A B) (k : KpR n₀ Bx B C) : KpR n₀ Bx A C := by
  refine ⟨h.below.trans k.below, fun i o hi hc hne hr => ?_, ?_⟩
  · refine k.kept i o (h.kept i o hi hc hne hr) hc hne ?_
    have hlt := (Array.getElem?_eq_some_iff.1 hi).1
    rcases h.row with e | e
    · rw [e]; exact hr
    · intro e2; have := e i e2; omega
  · rcases k.row with e | e
    · rw [e]; exact h.row
    · right; intro g hg; have := e g hg; have := h.below.size; omega
theorem KpR.of_below {n₀ Bx : Nat} {A B : World} (hn : n₀ ≤ A.heap.size) (hx : Bx < A.heap.size) (h : Below A.heap.size A B) : KpR n₀ Bx A B :=
  ⟨h.mono hn, fun k o hk _ _ _ => (h.block k (Array.getElem?_eq_some_iff.1 hk).1).trans hk, .inl (by unfold rowB; rw [h.cell (p := ⟨Bx, 0, none⟩) hx])⟩
theorem KpR.putObj {n₀ Bx : Nat} {w : World} (hn : n₀ ≤ w.heap.size) (hx : Bx < w.heap.size) (W : World) (l : Nat) (o o' : Obj) (hl : w.heap.size ≤ l) (h : W.heap[l]? = some o) (h1 : o.isCells = false) (h2 : o.isWalk = false) : KpR n₀ Bx W (W.putObj l o') := by
  refine ⟨belowK_b hn W l o o' hl h h1 h2, fun k o2 hk hc hne hr => ?_, .inl ?_⟩
  · have hkl : k ≠ l := by rintro rfl; rw [h] at hk; cases hk; rw [h1] at hc; cases hc
    exact (World.putObj_heap_other hkl).trans hk
  · have hb : (W.putObj l o').heap[Bx]? = W.heap[Bx]? := World.putObj_heap_other (by omega)
    simp only [rowB, World.cell?, hb]
theorem Blk.keptK {n₀ Bx : Nat} {A B : World} {b : Nat} {cs : List Value} (h : Blk A b cs) (h0 : 0 < cs.length) (hk : KpR n₀ Bx A B) (hne : b ≠ Bx) (hr : rowB A Bx ≠ some b) : Blk B b cs := by
  have ho : A.heap[b]? = some (A.heap[b]'h.lt) := Array.getElem?_eq_getElem h.lt
  have hc : (A.heap[b]'h.lt).isCells = true := by
    cases hq : (A.heap[b]'h.lt).isCells
    · exact (h.isCells h0 ho hq).elim
    · rfl
  have hb : B.heap[b]? = A.heap[b]? := (hk.kept b _ ho hc hne hr).trans ho.symm
  exact ⟨Nat.lt_of_lt_of_le h.lt hk.below.size, fun i hi => (World.cell?_of_block hb).trans (h.cell i hi), fun i => (World.frozen?_of_block hb).trans (h.froz i)⟩
theorem Own.keptK {n₀ Bx base : Nat} {A B : World} {e : TypeId} {size : Nat} {v : Value} {n : Nat} {xs : List Value} (h : Own A base e size v n xs) (hk : KpR n₀ Bx A B) (hx : Bx < base) (hr : ∀ r, rowB A Bx = some r → r < base) : Own B base e size v n xs := by
  obtain ⟨h1, h2⟩ := h.row
  refine ⟨h1, ?_⟩
  rcases h2 with h2 | ⟨g, cap, cur, hv, hg, hh, r⟩
  · exact .inl h2
  · exact .inr ⟨g, cap, cur, hv, hg, hk.kept g _ hh rfl (by omega) (fun e => by have := hr g e; omega), r⟩
def encP (p : Pe) : Array Value := #[.agg p.cells.toArray]
theorem pre_lt (L : List Pe) (k : Nat) (h : k < L.length) (hz : nzD L[k] = true) : ((L.take k).filter nzD).length < (L.filter nzD).length := by
  have h1 := filter_step nzD L k h
  rw [hz] at h1
  have h2 : L.filter nzD = (L.take (k + 1)).filter nzD ++ (L.drop (k + 1)).filter nzD := by rw [← List.filter_append, List.take_append_drop]
  rw [h2, h1]; simp
theorem pre_of (L : List Pe) (k : Nat) : ∃ r, L.filter nzD = (L.take k).filter nzD ++ r := ⟨(L.drop k).filter nzD, by rw [← List.filter_append, List.take_append_drop]⟩
theorem known_at1 (n : Nd) (k : Nat) (h : k < (n.pred.l ++ n.list.l).length) : ∃ h2 : k < (knownD n).length, (knownD n)[k] = (n.pred.l ++ n.list.l)[k] := by
  have h2 : k < (knownD n).length := by simp only [knownD, List.length_append] at h ⊢; omega
  exact ⟨h2, by simp only [knownD]; rw [List.getElem_append_left h]⟩
theorem known_at2 (n : Nd) (k : Nat) (h : k < n.fings.l.length) : ∃ h2 : (n.pred.l ++ n.list.l).length + k < (knownD n).length, (knownD n)[(n.pred.l ++ n.list.l).length + k] = n.fings.l[k].peer := by
  have h2 : (n.pred.l ++ n.list.l).length + k < (knownD n).length := by simp only [knownD, List.length_append, List.length_map] at h ⊢; omega
  exact ⟨h2, by simp only [knownD]; rw [List.getElem_append_right (by omega)]; simp⟩

theorem abide {J : List Pe → World → Prop} {B : Nat} {A C : World} {l : List Pe} (h : AbidesFrom B J) (hj : J l A) (hb : Below A.heap.size A C) : J l C :=
  h l A C none hj ⟨hb.os, hb.tape, hb.output, hb.size, fun k hk _ => hb.block k hk⟩ (fun r e => by cases e)

theorem each33 (n : Nat) (hn : 1 ≤ n) (lp Bn Bx : Nat) (wn : World) (nd : Nd) (hg : nd.Good wn) (hf : nd.Few) (Q : Pe → Prop) (hQ : ∀ p ∈ knownD nd, Q p) (J Jx : List Pe → World → Prop) (W : World)
    (hW : Below wn.heap.size wn W) (hBn : Blk W Bn nd.cells) (hx : Bx < W.heap.size) (hne : Bn ≠ Bx) (hr : ∀ r, rowB W Bx = some r → r < W.heap.size ∧ r ≠ Bn)
    (hJ : AbidesFrom W.heap.size J)
    (hY : ∀ pre x W1, Q x → J pre W1 → pre.length < (allD nd).length → YieldAt Fence.wide (n - 1) Try.prog lp (encP x) W1 fun e W' =>
      (e = .returned (.bool true) ∧ J (pre ++ [x]) W' ∧ KpR wn.heap.size Bx W1 W') ∨ (e = .returned (.bool false) ∧ Jx (pre ++ [x]) W')) (h0 : J [] W) :
    CallsIn Fence.wide n Try.prog 33 #[.func (.yield lp) #[] #[], .pointer (some ⟨Bn, 0, none⟩)] W fun e W' => (∃ v, e = .returned v) ∧
      ((∃ ys, ys = allD nd ∧ J ys W') ∨ (∃ pre, (∃ r, allD nd = pre ++ r) ∧ Jx pre W')) := by
  refine callsIn_of_wp Try.func33 rfl trivial ?_ rfl
  simp only [Try.ntmps33, List.size_toArray, List.length_cons, List.length_nil, Nat.reduceAdd, Nat.reduceSub, Array.replicate_succ, Array.replicate_zero, List.push_toArray, List.append_toArray, List.nil_append, List.cons_append]
  have HG := Lib.hid hg; have HF := Lib.hid hf; have HW := Lib.hid hW; have HBN := Lib.hid hBn; have HNE := Lib.hid hne; have HR := Lib.hid hr; have HJ := Lib.hid hJ; have HY := Lib.hid hY; have HX := Lib.hid hx; have HQQ := Lib.hid hQ
  have H0 : Hid (J [] W) := h0
  obtain ⟨po, hpo⟩ : ∃ q, nd.pred.o = q := ⟨_, rfl⟩
  obtain ⟨pc, hpc⟩ : ∃ q, nd.pred.c = q := ⟨_, rfl⟩
  obtain ⟨lo, hlo⟩ : ∃ q, nd.list.o = q := ⟨_, rfl⟩
  obtain ⟨lc, hlc⟩ : ∃ q, nd.list.c = q := ⟨_, rfl⟩
  obtain ⟨np, hnp⟩ : ∃ q, nd.pred.l.length = q := ⟨_, rfl⟩
  obtain ⟨nl, hnl⟩ : ∃ q, nd.list.l.length = q := ⟨_, rfl⟩
  have x11 : W.cell? ⟨Bn, 11, none⟩ = some (.slice po np pc) := by rw [nd_at hBn 11 (by omega), ← hpo, ← hpc, ← hnp]; rfl
  have x12 : W.cell? ⟨Bn, 12, none⟩ = some (.slice lo nl lc) := by rw [nd_at hBn 12 (by omega), ← hlo, ← hlc, ← hnl]; rfl
  have xl := hBn.lt
  have hal : Below W.heap.size W (W.alloc (.cells #[.slice po np pc, .slice lo nl lc] 32)) := (Below.refl _ _).alloc (Nat.le_refl _) _
  have hV : Blk (W.alloc (.cells #[.slice po np pc, .slice lo nl lc] 32)) W.heap.size [.slice po np pc, .slice lo nl lc] := Blk.new' (cs := [.slice po np pc, .slice lo nl lc]) rfl
  have hgA := hg.below (below_step hW hal)
  have hC := concat34 nd.pred.l nd.list.l (W.alloc (.cells #[.slice po np pc, .slice lo nl lc] 32)) W.heap.size po lo pc lc (by rw [hnp, hnl]; exact hV) (by have := hgA.pred.rows; rw [hpo, hpc] at this; exact this) (by have := hgA.list.rows; rw [hlo, hlc] at this; exact this) (by have := hf.pred; omega) (by have := hf.list; omega)
  have HC := Lib.hid hC; have HAL := Lib.hid hal
  clear hg hf hW hBn hne hr hJ hY hx h0 hQ hpo hpc hlo hlc hnp hnl hV hal hgA hC
  gi_wp2_with fail
  refine ⟨trivial, callsIn_wide.2 (HC.out.mono ?_)⟩
  rintro r w1 ⟨v, rfl, hO, hb⟩
  obtain ⟨na, hna⟩ : ∃ q, (nd.pred.l ++ nd.list.l).length = q := ⟨_, rfl⟩
  obtain ⟨nf, hnf⟩ : ∃ q, nd.fings.l.length = q := ⟨_, rfl⟩
  obtain ⟨fo, hfo⟩ : ∃ q, nd.fings.o = q := ⟨_, rfl⟩
  obtain ⟨fc, hfc⟩ : ∃ q, nd.fings.c = q := ⟨_, rfl⟩
  obtain ⟨so, sc, rfl, hR1⟩ := hO.rws rfl
  have HB1 := Lib.hid (below_step HAL.out hb)
  have HO1 : Hid (Own w1 (W.heap.size + 1) 50 8 (.slice so na sc) na ((nd.pred.l ++ nd.list.l).flatMap Pe.cells)) := by
    have h := hO
    rw [World.size_alloc, hna] at h
    exact h
  have HNA := Lib.hid hna; have HNF := Lib.hid hnf; have HFO := Lib.hid hfo
  have HLN : Hid (na ≤ 80 ∧ nf ≤ 70) := by
    have h1 := HF.out.pred; have h2 := HF.out.list; have h3 := HF.out.fings
    rw [List.length_append] at hna
    show _ ∧ _
    omega
  have HX1 : Hid (Bx < w1.heap.size) := Nat.lt_of_lt_of_le HX.out HB1.out.size
  have HN1 : Hid (wn.heap.size ≤ w1.heap.size) := Nat.le_trans HW.out.size HB1.out.size
  have HRB : Hid (rowB w1 Bx = rowB W Bx) := by
    show _ = _
    unfold rowB; rw [HB1.out.cell (p := ⟨Bx, 0, none⟩) HX.out]
  have HBN1 := Lib.hid (HBN.out.later HB1.out)
  have FACT : Hid (∀ wr, KpR wn.heap.size Bx w1 wr → Own wr (W.heap.size + 1) 50 8 (.slice so na sc) na ((nd.pred.l ++ nd.list.l).flatMap Pe.cells) ∧ Blk wr Bn nd.cells ∧ Bx < wr.heap.size ∧ wn.heap.size ≤ wr.heap.size) := fun wr hk => by
    refine ⟨HO1.out.keptK hk (by have := HX.out; omega) (fun r h => ?_), HBN1.out.keptK (by simp [Nd.cells]) hk HNE.out ?_, Nat.lt_of_lt_of_le HX1.out hk.below.size, Nat.le_trans HN1.out hk.below.size⟩
    · rw [HRB.out] at h; have := (HR.out r h).1; omega
    · rw [HRB.out]; intro e; exact (HR.out _ e).2 rfl
  have hJ1 : J [] w1 := abide HJ.out H0.out HB1.out
  have HFV : Hid (nd.fings.val = .slice fo nf fc) := by show _ = _; rw [Sl.val, hfo, hfc, hnf]
  rw [hna]
  clear hO hb hna hnf hfo hfc hR1 HC HAL x11 x12 xl HBN
  gi_wp2_with fail
  gi_loopw [14] (fun i wr => ∃ k : Nat, k ≤ na ∧ i = .int .i64 k ∧ J (((knownD nd).take k).filter nzD) wr ∧ Hid (KpR wn.heap.size Bx w1 wr)) (fun i _ => na - (intOf i).toNat)
  case atStart => exact ⟨0, by omega, rfl, by simpa using hJ1, Lib.hid (KpR.of_below HN1.out HX1.out (Below.refl _ _))⟩
  case round =>
    obtain ⟨k, hk, rfl, hJr, hK⟩ := hrel
    have x0 : True := trivial
    have xl : True := trivial
    by_cases hlt : k < na
    · have hi1 : (k : Int) < (na : Int) := by omega
      have rk : IntKind.i64.wrap ((k : Int) + 1) = ((k + 1 : Nat) : Int) := by
        have h1 := HLN.out
        rw [IntKind.wrap_i64]; omega
      obtain ⟨hO, hBn, hbx, hn0⟩ := FACT.out wr hK.out
      obtain ⟨oa2, c2, he2, hR⟩ := hO.rws (l := nd.pred.l ++ nd.list.l) HNA.out.symm
      have hRR := hR.rows
      have he3 : so = oa2 ∧ sc = c2 := by injection he2; exact ⟨by assumption, by assumption⟩
      clear he2
      obtain ⟨rfl, rfl⟩ := he3
      obtain ⟨b1, p1, rfl, hA⟩ := hRR.pe (i := k) (by rw [HNA.out]; exact hlt)
      obtain ⟨hkl, hke⟩ := known_at1 nd k (by rw [HNA.out]; exact hlt)
      have HT := Lib.hid (filter_step nzD (knownD nd) k hkl)
      have HPL := Lib.hid (pre_lt (knownD nd) k hkl)
      have HPO := Lib.hid (pre_of (knownD nd) (k + 1))
      obtain ⟨s, hs⟩ : ∃ s, (nd.pred.l ++ nd.list.l)[k]'(by rw [HNA.out]; exact hlt) = s := ⟨_, rfl⟩
      rw [hs] at hA hke
      rw [hke] at HT HPL
      have HA := Lib.hid hA
      have HBn := Lib.hid hBn
      have HQS : Hid (Q s) := by have h := HQQ.out _ (List.getElem_mem hkl); rw [hke] at h; exact h
      clear hs hA hke hkl hRR hBn hO
      obtain ⟨L, hL⟩ : ∃ L, ((knownD nd).take (k)).filter nzD = L := ⟨_, rfl⟩
      rw [hL] at hJr HT HPL
      clear hL
      have hZ : Blk (wr.alloc (.cells ([.string ⟨#[]⟩, .int .u64 0, .int .i64 0, .int .i64 0, .int .i64 0, .string ⟨#[]⟩, .int .i64 0, .int .i64 0] : List Value).toArray 50)) wr.heap.size [.string ⟨#[]⟩, .int .u64 0, .int .i64 0, .int .i64 0, .int .i64 0, .string ⟨#[]⟩, .int .i64 0, .int .i64 0] := Blk.new' rfl
      have hal : Below wr.heap.size wr (wr.alloc (.cells ([.string ⟨#[]⟩, .int .u64 0, .int .i64 0, .int .i64 0, .int .i64 0, .string ⟨#[]⟩, .int .i64 0, .int .i64 0] : List Value).toArray 50)) := (Below.refl _ _).alloc (Nat.le_refl _) _
      have HZ := Lib.hid hZ; have HAL := Lib.hid hal
      clear hZ hal
      gi_wp2_with (refine stop_loadIn (ty := 50) rfl ?_)
      refine ⟨wpListIn_load_at (by rfl) rfl HA.out (by rfl) row50 ?_⟩
      gi_wp2_with (refine stop_storeIn (ty := 50) rfl ?_)
      refine ⟨wpListIn_store_blk (by rfl) rfl HZ.out (vs := s.cells) (by rfl) (by rfl) row50 rfl (pe_one _) ?_⟩
      intro W5 hX5 hg5
      have hb5 := Below.grownB HAL.out hg5 (Nat.le_refl _) HAL.out.size
      have hJ5 : J L W5 := abide HJ.out hJr hb5
      have HK5 : Hid (KpR wn.heap.size Bx w1 W5) := hK.out.trans (KpR.of_below hn0 hbx hb5)
      have HXB := Lib.hid hX5
      clear hX5 hg5 hb5 HZ HAL HA hJr hK HBn hbx hn0 x0 xl
      cases hz : nzD s
      · have hq : ∀ W, _ = _ := neqZ s
        have hgd := guardZ s
        rw [hz] at hq
        have HT2 : Hid (((knownD nd).take (k + 1)).filter nzD = L) := by have h := HT.out; rw [hz] at h; show _ = _; simpa using h
        have HK2 := HK5
        clear HT HPL hz HPO
        gi_wp2_with (refine stop_loadIn (ty := 50) rfl ?_)
        refine ⟨wpListIn_load_at (by rfl) rfl HXB.out.at_ (by rfl) row50 ?_⟩
        gi_wp2_with fail
        refine ⟨fun _ h => (by cases h), ?_⟩
        gi_wp2_with fail
        refine ⟨?_, ?measurePa⟩
        rotate_left
        · (simp [intOf]) <;> omega
        have hfin : ∃ k_1 : Nat, k_1 ≤ na ∧ Value.int IntKind.i64 ((k : Int) + 1) = Value.int IntKind.i64 (k_1 : Int) ∧ J (((knownD nd).take (k_1)).filter nzD) W5 ∧ Hid (KpR wn.heap.size Bx w1 W5) := ⟨k + 1, by omega, rfl, (by rw [HT2.out]; exact hJ5), HK2⟩
        first | exact hfin | ((repeat apply Exists.intro); exact ⟨hfin, rfl⟩)
      · have hq : ∀ W, _ = _ := neqZ s
        have hgd := guardZ s
        rw [hz] at hq
        have HT2 : Hid (((knownD nd).take (k + 1)).filter nzD = L ++ [s]) := by have h := HT.out; rw [hz] at h; show _ = _; simpa using h
        obtain ⟨fn, tmps, assign, body, hy, hR⟩ := HY.out _ s W5 HQS.out hJ5 (HPL.out hz)
        simp only [encP] at hy
        clear HT HPL hz
        gi_wp2_with (refine stop_loadIn (ty := 50) rfl ?_)
        refine ⟨wpListIn_load_at (by rfl) rfl HXB.out.at_ (by rfl) row50 ?_⟩
        gi_wp2_with (refine stop_loadIn (ty := 50) rfl ?_)
        refine ⟨wpListIn_load_at (by rfl) rfl HXB.out.at_ (by rfl) row50 ?_⟩
        gi_wp2_with fail
        refine hR.mono ?_
        rintro e W6 (⟨rfl, hJ6, hk6⟩ | ⟨rfl, hJx6⟩)
        · have HK2 : Hid (KpR wn.heap.size Bx w1 W6) := HK5.out.trans hk6
          clear hy hq hgd hR
          gi_wp2_with fail
          refine ⟨?_, ?measurePb⟩
          rotate_left
          · (simp [intOf]) <;> omega
          have hfin : ∃ k_1 : Nat, k_1 ≤ na ∧ Value.int IntKind.i64 ((k : Int) + 1) = Value.int IntKind.i64 (k_1 : Int) ∧ J (((knownD nd).take (k_1)).filter nzD) W6 ∧ Hid (KpR wn.heap.size Bx w1 W6) := ⟨k + 1, by omega, rfl, (by rw [HT2.out]; exact hJ6), HK2⟩
          first | exact hfin | ((repeat apply Exists.intro); exact ⟨hfin, rfl⟩)
        · clear hy hq hgd hR
          have HPO2 : Hid (∃ r, allD nd = (L ++ [s]) ++ r) := by have h := HPO.out; rw [HT2.out] at h; exact h
          gi_wp2
          refine bodyPost_ret (results_none rfl _ _ _) rfl ?_
          exact ⟨⟨_, rfl⟩, .inr ⟨_, HPO2.out, hJx6⟩⟩
    · obtain rfl : k = na := by omega
      obtain ⟨hO, hBn, hbx, hn0⟩ := FACT.out wr hK.out
      have x13 : wr.cell? ⟨Bn, 13, none⟩ = some (.slice fo nf fc) := by rw [nd_at hBn 13 (by omega), ← HFV.out]; rfl
      have xl2 := hBn.lt
      clear hO hBn hbx hn0
      gi_wp2_with fail
      clear x13 xl2
      gi_loopw [31] (fun i wr => ∃ j : Nat, j ≤ nf ∧ i = .int .i64 j ∧ J (((knownD nd).take (k + j)).filter nzD) wr ∧ Hid (KpR wn.heap.size Bx w1 wr)) (fun i _ => nf - (intOf i).toNat)
      case atStart => exact ⟨0, by omega, rfl, hJr, hK⟩
      case round =>
        clear hJr hK hlt hk x0 xl
        obtain ⟨na, rfl⟩ : ∃ q, q = k := ⟨_, rfl⟩
        obtain ⟨k, hk, rfl, hJr, hK⟩ := hrel
        have x0 : True := trivial
        have xl : True := trivial
        by_cases hlt : k < nf
        · have hi1 : (k : Int) < (nf : Int) := by omega
          have rk : IntKind.i64.wrap ((k : Int) + 1) = ((k + 1 : Nat) : Int) := by
            have h1 := HLN.out
            rw [IntKind.wrap_i64]; omega
          obtain ⟨hO, hBn, hbx, hn0⟩ := FACT.out wr hK.out
          have hRR := (HG.out.fings.below ((below_step HW.out HB1.out).trans hK.out.below)).rows.rows
          obtain ⟨b1, p1, he1, hA⟩ := hRR.fi (i := k) (by rw [HNF.out]; exact hlt)
          rw [HFO.out] at he1
          cases he1
          obtain ⟨hkl, hke⟩ := known_at2 nd k (by rw [HNF.out]; exact hlt)
          simp only [HNA.out] at hkl hke
          have HT := Lib.hid (filter_step nzD (knownD nd) (na + k) hkl)
          have HPL := Lib.hid (pre_lt (knownD nd) (na + k) hkl)
          have HPO := Lib.hid (pre_of (knownD nd) (na + k + 1))
          obtain ⟨s, hs⟩ : ∃ s, nd.fings.l[k]'(by rw [HNF.out]; exact hlt) = s := ⟨_, rfl⟩
          rw [hs] at hA hke
          rw [hke] at HT HPL
          have HA := Lib.hid hA
          have HBn := Lib.hid hBn
          have HQS : Hid (Q s.peer) := by have h := HQQ.out _ (List.getElem_mem hkl); rw [hke] at h; exact h
          clear hs hA hke hkl hRR hBn hO
          obtain ⟨L, hL⟩ : ∃ L, ((knownD nd).take (na + k)).filter nzD = L := ⟨_, rfl⟩
          rw [hL] at hJr HT HPL
          clear hL
          have hZ : Blk (wr.alloc (.cells ([.int .i64 0, .string ⟨#[]⟩, .int .u64 0, .int .i64 0, .int .i64 0, .int .i64 0, .string ⟨#[]⟩, .int .i64 0, .int .i64 0] : List Value).toArray 63)) wr.heap.size [.int .i64 0, .string ⟨#[]⟩, .int .u64 0, .int .i64 0, .int .i64 0, .int .i64 0, .string ⟨#[]⟩, .int .i64 0, .int .i64 0] := Blk.new' rfl
          have hal : Below wr.heap.size wr (wr.alloc (.cells ([.int .i64 0, .string ⟨#[]⟩, .int .u64 0, .int .i64 0, .int .i64 0, .int .i64 0, .string ⟨#[]⟩, .int .i64 0, .int .i64 0] : List Value).toArray 63)) := (Below.refl _ _).alloc (Nat.le_refl _) _
          have HZ := Lib.hid hZ; have HAL := Lib.hid hal
          clear hZ hal
          gi_wp2_with (refine stop_loadIn (ty := 63) rfl ?_)
          refine ⟨wpListIn_load_at (by rfl) rfl HA.out (by rfl) row63 ?_⟩
          gi_wp2_with (refine stop_storeIn (ty := 63) rfl ?_)
          refine ⟨wpListIn_store_blk (by rfl) rfl HZ.out (vs := s.cells) (by rfl) (by rfl) row63 rfl (fi_one _) ?_⟩
          intro W5 hX5 hg5
          have hb5 := Below.grownB HAL.out hg5 (Nat.le_refl _) HAL.out.size
          have hJ5 : J L W5 := abide HJ.out hJr hb5
          have HK5 : Hid (KpR wn.heap.size Bx w1 W5) := hK.out.trans (KpR.of_below hn0 hbx hb5)
          have HXB := Lib.hid hX5
          clear hX5 hg5 hb5 HZ HAL HA hJr hK HBn hbx hn0 x0 xl
          cases hz : nzD s.peer
          · have hq : ∀ W, _ = _ := neqZ s.peer
            have hgd := guardZ s.peer
            rw [hz] at hq
            have HT2 : Hid (((knownD nd).take (na + (k + 1))).filter nzD = L) := by have h := HT.out; rw [hz] at h; show _ = _; rw [← Nat.add_assoc]; simpa using h
            have HK2 := HK5
            clear HT HPL hz HPO
            gi_wp2_with (refine stop_loadIn (ty := 50) rfl ?_)
            refine ⟨wpListIn_load_at (by rfl) rfl HXB.out.at_.fp (by rfl) row50 ?_⟩
            gi_wp2_with fail
            refine ⟨fun _ h => (by cases h), ?_⟩
            gi_wp2_with fail
            refine ⟨?_, ?measureFa⟩
            rotate_left
            · (simp [intOf]) <;> omega
            have hfin : ∃ k_1 : Nat, k_1 ≤ nf ∧ Value.int IntKind.i64 ((k : Int) + 1) = Value.int IntKind.i64 (k_1 : Int) ∧ J (((knownD nd).take (na + k_1)).filter nzD) W5 ∧ Hid (KpR wn.heap.size Bx w1 W5) := ⟨k + 1, by omega, rfl, (by rw [HT2.out]; exact hJ5), HK2⟩
            first | exact hfin | ((repeat apply Exists.intro); exact ⟨hfin, rfl⟩)
          · have hq : ∀ W, _ = _ := neqZ s.peer
            have hgd := guardZ s.peer
            rw [hz] at hq
            have HT2 : Hid (((knownD nd).take (na + (k + 1))).filter nzD = L ++ [s.peer]) := by have h := HT.out; rw [hz] at h; show _ = _; rw [← Nat.add_assoc]; simpa using h
            obtain ⟨fn, tmps, assign, body, hy, hR⟩ := HY.out _ s.peer W5 HQS.out hJ5 (HPL.out hz)
            simp only [encP] at hy
            clear HT HPL hz
            gi_wp2_with (refine stop_loadIn (ty := 50) rfl ?_)
            refine ⟨wpListIn_load_at (by rfl) rfl HXB.out.at_.fp (by rfl) row50 ?_⟩
            gi_wp2_with (refine stop_loadIn (ty := 50) rfl ?_)
            refine ⟨wpListIn_load_at (by rfl) rfl HXB.out.at_.fp (by rfl) row50 ?_⟩
            gi_wp2_with fail
            refine hR.mono ?_
            rintro e W6 (⟨rfl, hJ6, hk6⟩ | ⟨rfl, hJx6⟩)
            · have HK2 : Hid (KpR wn.heap.size Bx w1 W6) := HK5.out.trans hk6
              clear hy hq hgd hR
              gi_wp2_with fail
              refine ⟨?_, ?measureFb⟩
              rotate_left
              · (simp [intOf]) <;> omega
              have hfin : ∃ k_1 : Nat, k_1 ≤ nf ∧ Value.int IntKind.i64 ((k : Int) + 1) = Value.int IntKind.i64 (k_1 : Int) ∧ J (((knownD nd).take (na + k_1)).filter nzD) W6 ∧ Hid (KpR wn.heap.size Bx w1 W6) := ⟨k + 1, by omega, rfl, (by rw [HT2.out]; exact hJ6), HK2⟩
              first | exact hfin | ((repeat apply Exists.intro); exact ⟨hfin, rfl⟩)
            · clear hy hq hgd hR
              have HPO2 : Hid (∃ r, allD nd = (L ++ [s.peer]) ++ r) := by have h := HPO.out; rw [Nat.add_assoc] at h; rw [HT2.out] at h; exact h
              gi_wp2
              refine bodyPost_ret (results_none rfl _ _ _) rfl ?_
              exact ⟨⟨_, rfl⟩, .inr ⟨_, HPO2.out, hJx6⟩⟩
        · obtain rfl : k = nf := by omega
          have HE : Hid (((knownD nd).take (na + k)).filter nzD = allD nd) := by
            show _ = _
            have h1 := HNA.out; have h2 := HNF.out
            rw [List.take_of_length_le]; · rfl
            rw [List.length_append] at h1
            simp only [knownD, List.length_append, List.length_map]
            omega
          gi_wp2
          go_end0
          first | exact ⟨⟨_, rfl⟩, .inl ⟨_, HE.out, hJr⟩⟩ | exact ⟨⟨_, rfl⟩, .inl (by rw [HE.out] at hJr; exact hJr)⟩
end Go.Proofs.Ythdkgcmoagookaa
