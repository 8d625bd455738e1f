/-
  Variables of array or struct type that lie in a block of the call's own: read whole, written whole, handed back.
-/
import Derived.Test.YthdkgcmoagookaaOwn
import Derived.Deep.MidRow
namespace Go.Proofs.Ythdkgcmoagookaa
open Go.RowKit

/-- a type of so many cells that is read cell by cell -/
structure RowTy (P : Program) (ty : TypeId) (n : Nat) : Prop where
  row : ∃ d, P.underlying ty = some d ∧ d.isRow = true
  size : (P.info? ty).map (·.size) = some n

theorem Blk.range {w : World} {b : Nat} {cs : List Value} (h : Blk w b cs) : w.rangeAt b 0 cs := fun j v hv => by
  have hj := (List.getElem?_eq_some_iff.1 hv).1
  rw [Nat.zero_add, h.cell j hj, hv]

theorem setCells_grown (b : Nat) : ∀ (vs : List Value) (o : Nat) (w : World), w.grownBy (w.setCells b o vs) (some b)
  | [], _, w => ⟨rfl, rfl, rfl, Nat.le_refl _, fun _ _ _ => rfl⟩
  | v :: r, o, w => by
    have h := setCells_grown b r (o + 1) (w.setCell ⟨b, o, none⟩ v)
    rw [World.setCells]
    refine ⟨h.os, h.tape, h.output, ?_, fun k hk hne => ?_⟩
    · have := h.size; simpa [World.setCell] using this
    · have hk' : k < (w.setCell ⟨b, o, none⟩ v).heap.size := by simpa [World.setCell] using hk
      rw [h.block k hk' hne, Below.heap_setCell _ _ _ _ (fun e => hne (by rw [e]))]

theorem setCells_frozen (b : Nat) : ∀ (vs : List Value) (o : Nat) (w : World) (x : Addr), (w.setCells b o vs).frozen? x = w.frozen? x
  | [], _, _, _ => rfl
  | v :: r, o, w, x => by rw [World.setCells, setCells_frozen b r (o + 1) _ x, World.frozen?_setCell]

theorem Blk.setAll {w : World} {b : Nat} {cs vs : List Value} (h : Blk w b cs) (hl : vs.length = cs.length) : Blk (w.setCells b 0 vs) b vs := by
  have ht : w.there b 0 vs.length := fun j hj => ⟨by rw [Nat.zero_add, h.at' j (by omega)]; rfl, h.froz _⟩
  have hr := World.rangeAt_setCells_same w b 0 vs ht
  refine ⟨Nat.lt_of_lt_of_le h.lt (setCells_grown b vs 0 w).size, fun i hi => ?_, fun i => by rw [setCells_frozen]; exact h.froz i⟩
  have := hr i vs[i] (List.getElem?_eq_getElem hi)
  rw [Nat.zero_add] at this
  rw [this, List.getElem?_eq_getElem hi]

section
variable {P : Program} {w : World} {ops : Array Oper} {rest : List Oper} {op : Oper} {a : Act} {K : Act → World → Prop} {Q : Exit → Act → World → Prop}

theorem wp_load_blk {ty : TypeId} {x : Operand} (ho : op.op = .load ty x) {b : Nat} {cs : List Value} (hB : Blk w b cs) (hx : a.eval x = .pointer (some ⟨b, 0, none⟩)) (hT : RowTy P ty cs.length)
    (h : K (a.put op.dst (.agg cs.toArray)) w) : op.wp P a w K Q := by
  obtain ⟨d, hu, hd⟩ := hT.row
  exact wp_load_mid ty x ho b 0 hx cs d hB.range hu hd hT.size h
theorem wpList_load_blk (hgd : op.guard = none) {ty : TypeId} {x : Operand} (ho : op.op = .load ty x) {b : Nat} {cs : List Value} (hB : Blk w b cs) (hx : a.eval x = .pointer (some ⟨b, 0, none⟩)) (hT : RowTy P ty cs.length)
    (h : wpList P ops Q rest (a.put op.dst (.agg cs.toArray)) w) : wpList P ops Q (op :: rest) a w :=
  wpList_plain hgd fun _ hK => wp_load_blk ho hB hx hT (hK _ _ h)
theorem run_load_blk {ty : TypeId} {x : Operand} (ho : op.op = .load ty x) {b : Nat} {cs : List Value} (hB : Blk w b cs) (hx : a.eval x = .pointer (some ⟨b, 0, none⟩)) (hT : RowTy P ty cs.length) :
    (execOp a.eval op).run P w = .ok (.value (.agg cs.toArray)) w := by
  obtain ⟨d, hu, hd⟩ := hT.row
  unfold execOp
  simp only [ho, hx, Instr.loadAt, Instr.sureAddr, Sem.run_bind, Sem.run_pure, Result.andThen_ok, run_loadVar_mid w b 0 ty cs d hB.range hu hd hT.size]
theorem wp_store_blk {ty : TypeId} {x y : Operand} (ho : op.op = .store ty x y) {b : Nat} {cs vs : List Value} (hB : Blk w b cs) (hx : a.eval x = .pointer (some ⟨b, 0, none⟩)) (hy : a.eval y = .agg vs.toArray)
    (hT : RowTy P ty vs.length) (hl : vs.length = cs.length) (h1 : ∀ v ∈ vs, v.oneCell' = true)
    (h : ∀ w', Blk w' b vs → w.grownBy w' (some b) → K (a.put op.dst undef) w') : op.wp P a w K Q := by
  have ht : w.there b 0 vs.toArray.size := fun j hj => ⟨by rw [Nat.zero_add, hB.at' j (by simpa [hl] using hj)]; rfl, hB.froz _⟩
  refine wp_store_mid ty x y ho b 0 vs.toArray hx hy ht (by simpa using hT.size) (all_oneCell_toArray h1) (h _ ?_ ?_)
  · exact hB.setAll hl
  · exact setCells_grown b _ 0 w
theorem wpList_store_blk (hgd : op.guard = none) {ty : TypeId} {x y : Operand} (ho : op.op = .store ty x y) {b : Nat} {cs vs : List Value} (hB : Blk w b cs) (hx : a.eval x = .pointer (some ⟨b, 0, none⟩)) (hy : a.eval y = .agg vs.toArray)
    (hT : RowTy P ty vs.length) (hl : vs.length = cs.length) (h1 : ∀ v ∈ vs, v.oneCell' = true)
    (h : ∀ w', Blk w' b vs → w.grownBy w' (some b) → wpList P ops Q rest (a.put op.dst undef) w') : wpList P ops Q (op :: rest) a w :=
  wpList_plain hgd fun _ hK => wp_store_blk ho hB hx hy hT hl h1 fun w' h2 h3 => hK _ _ (h w' h2 h3)
end

/-- a result that lies in a block -/
theorem ret_blk {P : Program} {fn : Func} {t : Nat} {ty : TypeId} (h : fn.results = #[.cell t ty]) {R : Ending → World → Prop} {a : Act} {w : World} {b : Nat} {cs : List Value}
    (ht : a.tmps.getD t undef = .pointer (some ⟨b, 0, none⟩)) (hB : Blk w b cs) (hT : RowTy P ty cs.length) (hd : a.defers = []) (hR : R (.returned (.agg cs.toArray)) w) :
    bodyPost P fn R .ret a w := by
  obtain ⟨d, hu, hdr⟩ := hT.row
  refine bodyPost_ret (v := .agg cs.toArray) ?_ hd hR
  have hl := run_loadVar_mid w b 0 ty cs d hB.range hu hdr hT.size
  simp only [results, h]
  have ht' : (a.tmps[t]?).getD undef = .pointer (some ⟨b, 0, none⟩) := by simpa using ht
  simp [asAddr, ht', hl]

theorem Below.grownB {B b : Nat} {w0 w w' : World} (h : Below B w0 w) (hg : w.grownBy w' (some b)) (hB : B ≤ b) (hs : B ≤ w.heap.size) : Below B w0 w' :=
  h.grown hg hs (fun k hk => by cases hk; exact hB)
theorem stop_load {P : Program} {ops : Array Oper} {Q : Exit → Act → World → Prop} {o : Oper} {rest : List Oper} {a : Act} {w : World} {x : Operand} {ty : TypeId}
    (_ : o.op = .load ty x) (h : Stop (wpList P ops Q (o :: rest) a w)) : wpList P ops Q (o :: rest) a w := h.out
theorem stop_store {P : Program} {ops : Array Oper} {Q : Exit → Act → World → Prop} {o : Oper} {rest : List Oper} {a : Act} {w : World} {x y : Operand} {ty : TypeId}
    (_ : o.op = .store ty x y) (h : Stop (wpList P ops Q (o :: rest) a w)) : wpList P ops Q (o :: rest) a w := h.out
end Go.Proofs.Ythdkgcmoagookaa
