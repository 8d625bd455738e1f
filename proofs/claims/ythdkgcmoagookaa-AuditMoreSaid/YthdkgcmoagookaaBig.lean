/-
  Elements of many cells: read whole out of a row, wherever they lie.
-/
import Derived.Test.YthdkgcmoagookaaMid
namespace Go.Proofs.Ythdkgcmoagookaa
open Go.RowKit

/-- these cells lie there -/
structure At (w : World) (b o : Nat) (cs : List Value) : Prop where
  lt : b < w.heap.size
  range : w.rangeAt b o cs
theorem At.later {w w' : World} {b o : Nat} {cs : List Value} (h : At w b o cs) (hb : Below w.heap.size w w') : At w' b o cs :=
  ⟨Nat.lt_of_lt_of_le h.lt hb.size, fun j v hj => by rw [hb.cell (p := ⟨b, o + j, none⟩) h.lt]; exact h.range j v hj⟩
theorem At.get {w : World} {b o : Nat} {cs : List Value} (h : At w b o cs) (j : Nat) (hj : j < cs.length) : w.cell? ⟨b, o + j, none⟩ = some cs[j] :=
  h.range j _ (List.getElem?_eq_getElem hj)
theorem Blk.at_ {w : World} {b : Nat} {cs : List Value} (h : Blk w b cs) : At w b 0 cs := ⟨h.lt, h.range⟩
theorem RowsOf.at_ {α : Type} {f : α → List Value} {k : Nat} (hf : ∀ a, (f a).length = k) (hk : 0 < k) {w : World} {oa : Option Addr} {n : Nat} {l : List α} (h : RowsOf f w oa n l) {i : Nat} (hi : i < l.length) :
    ∃ b o, oa = some ⟨b, o, none⟩ ∧ At w b (o + i * k) (f l[i]) := by
  obtain ⟨b, o, e, hlt, hc⟩ := h.elem (k := k) hf hk hi
  refine ⟨b, o, e, hlt, fun j v hj => ?_⟩
  have hj2 := (List.getElem?_eq_some_iff.1 hj).1
  rw [hf] at hj2
  rw [hc j hj2, hj]
section
variable {P : Program} {w : World} {ops : Array Oper} {rest : List Oper} {op : Oper} {a : Act} {K : Act → World → Prop} {Q : Exit → Act → World → Prop}
theorem wp_load_at {ty : TypeId} {x : Operand} (ho : op.op = .load ty x) {b o : Nat} {cs : List Value} (hB : At w b o cs) (hx : a.eval x = .pointer (some ⟨b, o, none⟩)) (hT : RowTy P ty cs.length)
    (h : K (a.put op.dst (.agg cs.toArray)) w) : op.wp P a w K Q := by
  obtain ⟨d, hu, hd⟩ := hT.row
  exact wp_load_mid ty x ho b o hx cs d hB.range hu hd hT.size h
theorem wpList_load_at (hgd : op.guard = none) {ty : TypeId} {x : Operand} (ho : op.op = .load ty x) {b o : Nat} {cs : List Value} (hB : At w b o cs) (hx : a.eval x = .pointer (some ⟨b, o, none⟩)) (hT : RowTy P ty cs.length)
    (h : wpList P ops Q rest (a.put op.dst (.agg cs.toArray)) w) : wpList P ops Q (op :: rest) a w :=
  wpList_plain hgd fun _ hK => wp_load_at ho hB hx hT (hK _ _ h)
theorem run_load_at {ty : TypeId} {x : Operand} (ho : op.op = .load ty x) {b o : Nat} {cs : List Value} (hB : At w b o cs) (hx : a.eval x = .pointer (some ⟨b, o, none⟩)) (hT : RowTy P ty cs.length) :
    (execOp a.eval op).run P w = .ok (.value (.agg cs.toArray)) w := by
  obtain ⟨d, hu, hd⟩ := hT.row
  unfold execOp
  simp only [ho, hx, Instr.loadAt, Instr.sureAddr, Sem.run_bind, Sem.run_pure, Result.andThen_ok, run_loadVar_mid w b o ty cs d hB.range hu hd hT.size]
end
end Go.Proofs.Ythdkgcmoagookaa
