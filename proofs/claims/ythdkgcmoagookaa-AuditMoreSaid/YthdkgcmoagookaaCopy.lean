/-
  'copy' into a block of the call's own, as long as what is copied; 'append' within the capacity.
-/
import Derived.Test.YthdkgcmoagookaaRowV
import Derived.Laws.IdiomCopy
import Derived.Laws.CopyOwn
import Derived.ArgAppend
namespace Go.Proofs.Ythdkgcmoagookaa
open Go.RowKit

theorem grown_refl (w : World) (r : Option Nat) : w.grownBy w r := ⟨rfl, rfl, rfl, Nat.le_refl _, fun _ _ _ => rfl⟩

theorem run_copy_blk {P : Program} (w : World) (dT sT ty elem : TypeId) (hu : P.underlying dT = some (.slice elem)) (hs : (P.info? elem).map (·.size) = some 1) {g : Nat} {cur cs : List Value} (hB : Blk w g cur)
    {oa : Option Addr} {n c m c' : Nat} (hn : n = cur.length) (hm : m = cs.length) (hmn : m = n) (hcs : Cells w oa cs) (h1 : ∀ u ∈ cs, u.oneCell' = true) :
    ∃ w', (Builtin.copy_ #[dT, sT] ty #[.slice (some ⟨g, 0, none⟩) n c, .slice oa m c']).run P w = .ok (goInt m) w' ∧ Blk w' g cs ∧ w.grownBy w' (some g) := by
  subst hmn
  cases oa with
  | none =>
    obtain rfl := hcs.none_nil
    have hm0 : m = 0 := hm
    subst hm0
    have : cur = [] := List.eq_nil_of_length_eq_zero hn.symm
    subst this
    exact ⟨w, run_copy_none w dT sT ty elem _ _ 0 c 0 c' hu hs rfl, hB, grown_refl _ _⟩
  | some a =>
    have hr := run_copy_cells (P := P) w dT sT ty elem g 0 m c a m c' cs hu hs (by rw [← hm]; exact (Nat.min_self m).symm) hcs.news (fun j hj => by rw [Nat.zero_add, hB.at' j (by omega)]; rfl) (fun j hj => hB.froz _) h1
    rw [← hm] at hr
    exact ⟨_, hr, hB.setAll (by omega), setCells_grown g cs 0 w⟩

section
variable {P : Program} {w : World} {ops : Array Oper} {rest : List Oper} {op : Oper} {a : Act} {K : Act → World → Prop} {Q : Exit → Act → World → Prop}
theorem wp_copy_blk {d s : Operand} {dT sT elem : TypeId} (ho : op.op = .call { callee := .builtin .copy, args := #[d, s], argTypes := #[dT, sT] }) (hu : P.underlying dT = some (.slice elem)) (hsz : (P.info? elem).map (·.size) = some 1)
    {g : Nat} {cur cs : List Value} (hB : Blk w g cur) {oa : Option Addr} {n c m c' : Nat} (hd : a.eval d = .slice (some ⟨g, 0, none⟩) n c) (hs : a.eval s = .slice oa m c') (hn : n = cur.length) (hm : m = cs.length) (hmn : m = n)
    (hcs : Cells w oa cs) (h1 : ∀ u ∈ cs, u.oneCell' = true)
    (h : ∀ w', Blk w' g cs → w.grownBy w' (some g) → K (a.put op.dst (goInt m)) w') : op.wp P a w K Q := by
  obtain ⟨w', hr, hB', hg⟩ := run_copy_blk (P := P) w dT sT op.type elem hu hsz hB (c := c) (c' := c') hn hm hmn hcs h1
  unfold Oper.wp
  simp [execOp, ho, resolve, invoke, builtin, hd, hs, hr, Result.andThen]
  exact h _ hB' hg
theorem wpList_copy_blk (hgd : op.guard = none) {d s : Operand} {dT sT elem : TypeId} (ho : op.op = .call { callee := .builtin .copy, args := #[d, s], argTypes := #[dT, sT] }) (hu : P.underlying dT = some (.slice elem)) (hsz : (P.info? elem).map (·.size) = some 1)
    {g : Nat} {cur cs : List Value} (hB : Blk w g cur) {oa : Option Addr} {n c m c' : Nat} (hd : a.eval d = .slice (some ⟨g, 0, none⟩) n c) (hs : a.eval s = .slice oa m c') (hn : n = cur.length) (hm : m = cs.length) (hmn : m = n)
    (hcs : Cells w oa cs) (h1 : ∀ u ∈ cs, u.oneCell' = true)
    (h : ∀ w', Blk w' g cs → w.grownBy w' (some g) → wpList P ops Q rest (a.put op.dst (goInt m)) w') : wpList P ops Q (op :: rest) a w :=
  wpList_plain hgd fun _ hK => wp_copy_blk ho hu hsz hB hd hs hn hm hmn hcs h1 fun w' h2 h3 => hK _ _ (h w' h2 h3)
theorem stop_copy {P : Program} {ops : Array Oper} {Q : Exit → Act → World → Prop} {o : Oper} {rest : List Oper} {a : Act} {w : World} {s x : Operand} {t u : TypeId}
    (_ : o.op = .call { callee := .builtin .copy, args := #[s, x], argTypes := #[t, u] }) (h : Stop (wpList P ops Q (o :: rest) a w)) : wpList P ops Q (o :: rest) a w := h.out
end
end Go.Proofs.Ythdkgcmoagookaa
