/-
  Entries and peers that are the same.
-/
import Derived.Test.YthdkgcmoagookaaWd
import Derived.Test.YthdkgcmoagookaaPlan2
import Derived.DeepKeys
namespace Go.Proofs.Ythdkgcmoagookaa
open Go.RowKit Go.Proofs.Ythdkgcmoagookaa.Plan Go.Proofs.Ythdkgcmoagookaa.Eager
set_option maxHeartbeats 4000000
set_option maxRecDepth 20000
set_option linter.unusedVariables false
set_option linter.unusedSimpArgs false

theorem strpeq (a b : ByteArray) : (a.toList = b.toList) ↔ a = b := by
  rw [ByteArray.toList_eq, ByteArray.toList_eq]
  constructor
  · intro e; cases a; cases b; simpa using e
  · rintro rfl; rfl
theorem eqIn29 (m : Nat) (s t : En) (w : World) : (Op.equalIn (m + 4) 29 (.agg s.cells.toArray) (.agg t.cells.toArray)).run Try.prog w = .ok (decide (s = t)) w := by
  obtain ⟨a1, a2, a3, a4, a5, a6⟩ := s
  obtain ⟨b1, b2, b3, b4, b5, b6⟩ := t
  have hS : Try.prog.underlying 29 = some (.struct (Try.prog.fieldsOf 29)) := by kernel_rfl
  have hp : Try.prog.stoodInHeld 29 = false := by kernel_rfl
  simp only [En.cells]
  rw [show m + 4 = (m + 3) + 1 from rfl, run_equalIn_agg w (m + 3) 29 _ _ hS hp]
  simp only [Program.fieldsOf, Try.underlying29]
  go_simp
  by_cases h1 : a1 = b1 <;> by_cases h2 : a2 = b2 <;> by_cases h3 : a3 = b3 <;> by_cases h4 : a4 = b4 <;> by_cases h5 : a5 = b5 <;> by_cases h6 : a6 = b6 <;> (simp [strpeq, h1, h2, h3, h4, h5, h6] <;> omega)
theorem eqIn50 (m : Nat) (s t : Pe) (w : World) : (Op.equalIn (m + 5) 50 (.agg s.cells.toArray) (.agg t.cells.toArray)).run Try.prog w = .ok (decide (s = t)) w := by
  obtain ⟨a, a1, a2⟩ := s
  obtain ⟨b, b1, b2⟩ := t
  have hS : Try.prog.underlying 50 = some (.struct (Try.prog.fieldsOf 50)) := by kernel_rfl
  have hp : Try.prog.stoodInHeld 50 = false := by kernel_rfl
  have he := eqIn29 m a b
  simp only [Pe.cells]
  rw [show m + 5 = (m + 4) + 1 from rfl, run_equalIn_agg w (m + 4) 50 _ _ hS hp]
  simp only [Program.fieldsOf, Try.underlying50]
  simp only [En.cells] at he
  go_simp
  by_cases h : a = b <;> by_cases h1 : a1 = b1 <;> by_cases h2 : a2 = b2 <;> simp [h, h1, h2]
theorem eql29 (s t : En) (w : World) : (binOp .eql 29 (.agg s.cells.toArray) (.agg t.cells.toArray)).run Try.prog w = .ok (.bool (decide (s = t))) w := by
  simp only [binOp]
  simp [Op.equal, Op.maxDepth, eqIn29 9996 s t w]
theorem neq50 (s t : Pe) (w : World) : (binOp .neq 50 (.agg s.cells.toArray) (.agg t.cells.toArray)).run Try.prog w = .ok (.bool (!decide (s = t))) w := by
  simp only [binOp]
  simp [Op.equal, Op.maxDepth, eqIn50 9995 s t w]
theorem run_binOp {P : Program} {a : Act} {w : World} {o : Oper} {k : BinOp} {ty u : TypeId} {x y : Operand} {vx vy v : Value} (ho : o.op = .binOp k ty x y u) (hx : a.eval x = vx) (hy : a.eval y = vy)
    (hg : (eqGuard k ty x y vx vy).run P w = .ok () w) (h : (binOp k ty vx vy).run P w = .ok v w) : (execOp a.eval o).run P w = .ok (.value v) w := by
  unfold execOp
  simp only [ho, hx, hy]
  simp only [Sem.run_bind, hg, h, Result.andThen_ok, Sem.run_pure]
theorem guard29 (k : BinOp) (x y : Operand) (xs ys : Array Value) (w : World) : (eqGuard k 29 x y (.agg xs) (.agg ys)).run Try.prog w = .ok () w := by
  have hf : Try.prog.eqGuardType Try.prog.depth 29 = false := by kernel_rfl
  exact run_eqGuard_agg w k 29 x y xs ys hf
theorem guard50 (k : BinOp) (x y : Operand) (xs ys : Array Value) (w : World) : (eqGuard k 50 x y (.agg xs) (.agg ys)).run Try.prog w = .ok () w := by
  have hf : Try.prog.eqGuardType Try.prog.depth 50 = false := by kernel_rfl
  exact run_eqGuard_agg w k 50 x y xs ys hf
theorem list_ne {α : Type} {a b : List α} {k : Nat} (h1 : k < a.length) (h2 : k < b.length) (h : a[k] ≠ b[k]) : a ≠ b := by
  rintro rfl; exact h rfl
theorem take_eq {α : Type} {a b : List α} {k : Nat} (h1 : k < a.length) (h2 : k < b.length) (h : a[k] = b[k]) (ht : a.take k = b.take k) : a.take (k + 1) = b.take (k + 1) := by
  rw [List.take_succ_eq_append_getElem h1, List.take_succ_eq_append_getElem h2, ht, h]

section
variable {α : Type}
def idxD (p : α → Bool) (l : List α) : Int := match l.findIdx? p with
  | some i => (i : Int)
  | none => -1
theorem idxD_at (p : α → Bool) (l : List α) (k : Nat) (hk : k < l.length) (h : ∀ j (hj : j < l.length), j < k → p l[j] = false) (h1 : p l[k] = true) : idxD p l = (k : Int) := by
  have e : l.findIdx? p = some k := by
    rw [List.findIdx?_eq_some_iff_getElem]
    exact ⟨hk, h1, fun j hj => by simp [h j (by omega) hj]⟩
  unfold idxD; rw [e]
theorem idxD_none (p : α → Bool) (l : List α) (h : ∀ j (hj : j < l.length), p l[j] = false) : idxD p l = -1 := by
  have e : l.findIdx? p = none := by
    rw [List.findIdx?_eq_none_iff]
    intro s hs
    obtain ⟨j, hj, rfl⟩ := List.getElem_of_mem hs
    exact h j hj
  unfold idxD; rw [e]
theorem idxD_ge (p : α → Bool) (l : List α) : (decide (0 ≤ idxD p l)) = l.any p := by
  unfold idxD
  cases h : l.findIdx? p with
  | none =>
    rw [List.findIdx?_eq_none_iff] at h
    have : l.any p = false := by rw [List.any_eq_false]; intro s hs; simp [h s hs]
    rw [this]; rfl
  | some i =>
    rw [List.findIdx?_eq_some_iff_getElem] at h
    obtain ⟨hi, h1, -⟩ := h
    have : l.any p = true := List.any_eq_true.2 ⟨l[i], List.getElem_mem hi, h1⟩
    rw [this]
    exact decide_eq_true (by simp only; omega)
theorem any_none (p : α → Bool) (l : List α) (h : ∀ j (hj : j < l.length), p l[j] = false) : l.any p = false := by
  rw [List.any_eq_false]; intro s hs
  obtain ⟨j, hj, rfl⟩ := List.getElem_of_mem hs
  simp [h j hj]
theorem any_at (p : α → Bool) (l : List α) (k : Nat) (hk : k < l.length) (h : p l[k] = true) : l.any p = true := List.any_eq_true.2 ⟨l[k], List.getElem_mem hk, h⟩
end
/-- is an entry in a list? -/
def isE (e : En) (s : En) : Bool := decide (s = e)
def inD (l : List En) (e : En) : Bool := l.any (isE e)

theorem index39 (l : List En) (e : En) (w : World) (oa : Option Addr) (m c : Nat) (h : REn w oa m c l) :
    Calls Try.prog 39 #[.slice oa m c, .agg e.cells.toArray] w fun r w' => r = .returned (.int .i64 (idxD (isE e) l)) ∧ Below w.heap.size w w' := by
  obtain rfl : m = l.length := h.rows.len
  have hal : Below w.heap.size w (w.alloc (.cells e.cells.toArray 29)) := (Below.refl _ _).alloc (Nat.le_refl _) _
  have hX : Blk (w.alloc (.cells e.cells.toArray 29)) w.heap.size e.cells := Blk.new' rfl
  have HB := Lib.hid hal; have HX := Lib.hid hX; have H := Lib.hid h
  clear hal hX h
  go_enter Try.func39, Try.ntmps39
  go_wp2
  go_loopw [5, 8] (fun _ i wr => ∃ k : Nat, k ≤ l.length ∧ i = .int .i64 k ∧ Hid (∀ j (h : j < l.length), j < k → isE e l[j] = false) ∧ Hid (Blk wr w.heap.size e.cells) ∧ Hid (Below w.heap.size w wr)) (fun _ i _ => l.length - (intOf i).toNat)
  case atStart => exact ⟨0, by omega, rfl, Lib.hid (fun j _ h => by omega), HX, HB⟩
  case round =>
    obtain ⟨k, hk, rfl, hS, HY, hB⟩ := hrel
    by_cases hlt : k < l.length
    · have hi1 : (k : Int) < (l.length : Int) := by omega
      have rk : IntKind.i64.wrap ((k : Int) + 1) = ((k + 1 : Nat) : Int) := by
        have h1 := H.out.le; have h2 := H.out.cap
        simp only [maxLen] at h2
        rw [IntKind.wrap_i64]; omega
      obtain ⟨b1, p1, rfl, hA⟩ := (H.out.rows.below hB.out).en hlt
      have HV : Hid (isE e l[k] = true → idxD (isE e) l = (k : Int)) := idxD_at (isE e) l k hlt hS.out
      have HN : Hid (isE e l[k] = false → ∀ j (h : j < l.length), j < k + 1 → isE e l[j] = false) := by
        intro ht j hj hjk
        by_cases q : j = k
        · subst q; exact ht
        · exact hS.out j hj (by omega)
      obtain ⟨s, hs⟩ : ∃ s, l[k] = s := ⟨_, rfl⟩
      rw [hs] at hA HV HN
      have HA := Lib.hid hA
      clear hs hS hA
      obtain ⟨wA, rfl⟩ : ∃ q, q = wr := ⟨_, rfl⟩
      by_cases h1 : s = e
      · have HY2 := Lib.hid (HV.out (decide_eq_true h1))
        have HQ : Hid (s = e) := h1
        clear HN HV h1
        go_wp2_with fail
        refine wp_region_plan none [] [] (.take 0 (.take 1 (.take 2 (.take 3 (.take 4 (.take 5 .done)))))) (by kernel_rfl) (by kernel_rfl) (fun _ _ dd _ _ h => by cases dd <;> exact h) ?_
        intro W0 hW0
        have hbW : Below w.heap.size w W0 := by rw [hW0]; exact hB.out.drew
        have f0 := HA.out.later (below_drew wA)
        have g0 := HY.out.drew
        rw [← hW0] at f0 g0
        clear hW0
        refine pl_take (d := 11) (v := .agg e.cells.toArray) rfl rfl rfl ?_ ?_
        · intro w' hb0 hw'
          exact run_load_blk rfl (g0.later hw') (by rfl) row29
        simp only [Act.put, List.setIfInBounds_toArray, List.set_cons_zero, List.set_cons_succ]
        (refine pl_take (d := 12) (v := ?_) rfl rfl rfl ?_ ?_; rotate_left; (focus ((intro w' hb0 hw'; go_simp) <;> with_reducible rfl)); simp only [Act.put, List.setIfInBounds_toArray, List.set_cons_zero, List.set_cons_succ])
        (refine pl_take (d := 13) (v := ?_) rfl rfl rfl ?_ ?_; rotate_left; (focus ((intro w' hb0 hw'; go_simp) <;> with_reducible rfl)); simp only [Act.put, List.setIfInBounds_toArray, List.set_cons_zero, List.set_cons_succ])
        (refine pl_take (d := 14) (v := ?_) rfl rfl rfl ?_ ?_; rotate_left; (focus ((intro w' hb0 hw'; go_simp) <;> with_reducible rfl)); simp only [Act.put, List.setIfInBounds_toArray, List.set_cons_zero, List.set_cons_succ])
        refine pl_take (d := 15) (v := .agg s.cells.toArray) rfl rfl rfl ?_ ?_
        · intro w' hb0 hw'
          exact run_load_at rfl (f0.later hw') (by rfl) row29
        simp only [Act.put, List.setIfInBounds_toArray, List.set_cons_zero, List.set_cons_succ]
        refine pl_take (d := 16) (v := .bool true) rfl rfl rfl ?_ ?_
        · intro w' hb0 hw'
          have he := eql29 e s w'
          rw [decide_eq_true HQ.out.symm] at he
          exact run_binOp rfl (by rfl) (by rfl) (guard29 _ _ _ _ _ _) he
        simp only [Act.put, List.setIfInBounds_toArray, List.set_cons_zero, List.set_cons_succ]
        refine pl_end ?_
        go_wp2
        refine bodyPost_ret (v := .int .i64 (k : Int)) (by simp [results, Try.results39, go_sem]) rfl ⟨by rw [HY2.out], hbW⟩
      · have HN2 := Lib.hid (HN.out (decide_eq_false h1))
        have HQ : Hid (¬ s = e) := h1
        clear HN HV h1
        go_wp2_with fail
        refine wp_region_plan none [] [] (.take 0 (.take 1 (.take 2 (.take 3 (.take 4 (.take 5 .done)))))) (by kernel_rfl) (by kernel_rfl) (fun _ _ dd _ _ h => by cases dd <;> exact h) ?_
        intro W0 hW0
        have hbW : Below w.heap.size w W0 := by rw [hW0]; exact hB.out.drew
        have f0 := HA.out.later (below_drew wA)
        have g0 := HY.out.drew
        rw [← hW0] at f0 g0
        clear hW0
        refine pl_take (d := 11) (v := .agg e.cells.toArray) rfl rfl rfl ?_ ?_
        · intro w' hb0 hw'
          exact run_load_blk rfl (g0.later hw') (by rfl) row29
        simp only [Act.put, List.setIfInBounds_toArray, List.set_cons_zero, List.set_cons_succ]
        (refine pl_take (d := 12) (v := ?_) rfl rfl rfl ?_ ?_; rotate_left; (focus ((intro w' hb0 hw'; go_simp) <;> with_reducible rfl)); simp only [Act.put, List.setIfInBounds_toArray, List.set_cons_zero, List.set_cons_succ])
        (refine pl_take (d := 13) (v := ?_) rfl rfl rfl ?_ ?_; rotate_left; (focus ((intro w' hb0 hw'; go_simp) <;> with_reducible rfl)); simp only [Act.put, List.setIfInBounds_toArray, List.set_cons_zero, List.set_cons_succ])
        (refine pl_take (d := 14) (v := ?_) rfl rfl rfl ?_ ?_; rotate_left; (focus ((intro w' hb0 hw'; go_simp) <;> with_reducible rfl)); simp only [Act.put, List.setIfInBounds_toArray, List.set_cons_zero, List.set_cons_succ])
        refine pl_take (d := 15) (v := .agg s.cells.toArray) rfl rfl rfl ?_ ?_
        · intro w' hb0 hw'
          exact run_load_at rfl (f0.later hw') (by rfl) row29
        simp only [Act.put, List.setIfInBounds_toArray, List.set_cons_zero, List.set_cons_succ]
        refine pl_take (d := 16) (v := .bool false) rfl rfl rfl ?_ ?_
        · intro w' hb0 hw'
          have he := eql29 e s w'
          rw [decide_eq_false (fun x => HQ.out x.symm)] at he
          exact run_binOp rfl (by rfl) (by rfl) (guard29 _ _ _ _ _ _) he
        simp only [Act.put, List.setIfInBounds_toArray, List.set_cons_zero, List.set_cons_succ]
        refine pl_end ?_
        go_wp2_with fail
        go_roundw
        case measure => (simp [intOf]) <;> omega
        case rel => exact ⟨k + 1, by omega, rfl, HN2, Lib.hid (g0), Lib.hid hbW⟩
    · obtain rfl : k = l.length := by omega
      have HF2 : Hid (idxD (isE e) l = -1) := idxD_none (isE e) l (fun j hj => hS.out j hj hj)
      have hb1 := hB.out
      clear hS
      go_wp2
      refine bodyPost_ret (v := .int .i64 (-1)) (by simp [results, Try.results39, go_sem]) rfl ⟨by rw [HF2.out], hb1⟩

theorem refIn28 (l : List En) (e : En) (w : World) (oa : Option Addr) (m c : Nat) (h : REn w oa m c l) :
    Calls Try.prog 28 #[.slice oa m c, .agg e.cells.toArray] w fun r w' => r = .returned (.bool (inD l e)) ∧ Below w.heap.size w w' := by
  obtain rfl : m = l.length := h.rows.len
  have hal : Below w.heap.size w (w.alloc (.cells e.cells.toArray 29)) := (Below.refl _ _).alloc (Nat.le_refl _) _
  have hX : Blk (w.alloc (.cells e.cells.toArray 29)) w.heap.size e.cells := Blk.new' rfl
  have HB := Lib.hid hal; have HX := Lib.hid hX; have H := Lib.hid h
  clear hal hX h
  go_enter Try.func28, Try.ntmps28
  go_wp2
  go_loopw [5] (fun i wr => ∃ k : Nat, k ≤ l.length ∧ i = .int .i64 k ∧ Hid (∀ j (h : j < l.length), j < k → isE e l[j] = false) ∧ Hid (Blk wr w.heap.size e.cells) ∧ Hid (Below w.heap.size w wr)) (fun i _ => l.length - (intOf i).toNat)
  case atStart => exact ⟨0, by omega, rfl, Lib.hid (fun j _ h => by omega), HX, HB⟩
  case round =>
    obtain ⟨k, hk, rfl, hS, HY, hB⟩ := hrel
    by_cases hlt : k < l.length
    · have hi1 : (k : Int) < (l.length : Int) := by omega
      have rk : IntKind.i64.wrap ((k : Int) + 1) = ((k + 1 : Nat) : Int) := by
        have h1 := H.out.le; have h2 := H.out.cap
        simp only [maxLen] at h2
        rw [IntKind.wrap_i64]; omega
      obtain ⟨b1, p1, rfl, hA⟩ := (H.out.rows.below hB.out).en hlt
      have HV : Hid (isE e l[k] = true → inD l e = true) := any_at (isE e) l k hlt
      have HN : Hid (isE e l[k] = false → ∀ j (h : j < l.length), j < k + 1 → isE e l[j] = false) := by
        intro ht j hj hjk
        by_cases q : j = k
        · subst q; exact ht
        · exact hS.out j hj (by omega)
      obtain ⟨s, hs⟩ : ∃ s, l[k] = s := ⟨_, rfl⟩
      rw [hs] at hA HV HN
      have HA := Lib.hid hA
      clear hs hS hA
      obtain ⟨wA, rfl⟩ : ∃ q, q = wr := ⟨_, rfl⟩
      by_cases h1 : s = e
      · have HY2 := Lib.hid (HV.out (decide_eq_true h1))
        have HQ : Hid (s = e) := h1
        clear HN HV h1
        go_wp2_with fail
        refine wp_region_plan none [] [] (.take 0 (.take 1 (.take 2 (.take 3 (.take 4 (.take 5 .done)))))) (by kernel_rfl) (by kernel_rfl) (fun _ _ dd _ _ h => by cases dd <;> exact h) ?_
        intro W0 hW0
        have hbW : Below w.heap.size w W0 := by rw [hW0]; exact hB.out.drew
        have f0 := HA.out.later (below_drew wA)
        have g0 := HY.out.drew
        rw [← hW0] at f0 g0
        clear hW0
        (refine pl_take (d := 12) (v := ?_) rfl rfl rfl ?_ ?_; rotate_left; (focus ((intro w' hb0 hw'; go_simp) <;> with_reducible rfl)); simp only [Act.put, List.setIfInBounds_toArray, List.set_cons_zero, List.set_cons_succ])
        (refine pl_take (d := 13) (v := ?_) rfl rfl rfl ?_ ?_; rotate_left; (focus ((intro w' hb0 hw'; go_simp) <;> with_reducible rfl)); simp only [Act.put, List.setIfInBounds_toArray, List.set_cons_zero, List.set_cons_succ])
        (refine pl_take (d := 14) (v := ?_) rfl rfl rfl ?_ ?_; rotate_left; (focus ((intro w' hb0 hw'; go_simp) <;> with_reducible rfl)); simp only [Act.put, List.setIfInBounds_toArray, List.set_cons_zero, List.set_cons_succ])
        refine pl_take (d := 15) (v := .agg s.cells.toArray) rfl rfl rfl ?_ ?_
        · intro w' hb0 hw'
          exact run_load_at rfl (f0.later hw') (by rfl) row29
        simp only [Act.put, List.setIfInBounds_toArray, List.set_cons_zero, List.set_cons_succ]
        refine pl_take (d := 16) (v := .agg e.cells.toArray) rfl rfl rfl ?_ ?_
        · intro w' hb0 hw'
          exact run_load_blk rfl (g0.later hw') (by rfl) row29
        simp only [Act.put, List.setIfInBounds_toArray, List.set_cons_zero, List.set_cons_succ]
        refine pl_take (d := 17) (v := .bool true) rfl rfl rfl ?_ ?_
        · intro w' hb0 hw'
          have he := eql29 s e w'
          rw [decide_eq_true HQ.out] at he
          exact run_binOp rfl (by rfl) (by rfl) (guard29 _ _ _ _ _ _) he
        simp only [Act.put, List.setIfInBounds_toArray, List.set_cons_zero, List.set_cons_succ]
        refine pl_end ?_
        go_wp2
        refine bodyPost_ret (v := .bool true) (by simp [results, Try.results28, go_sem]) rfl ⟨by rw [HY2.out], hbW⟩
      · have HN2 := Lib.hid (HN.out (decide_eq_false h1))
        have HQ : Hid (¬ s = e) := h1
        clear HN HV h1
        go_wp2_with fail
        refine wp_region_plan none [] [] (.take 0 (.take 1 (.take 2 (.take 3 (.take 4 (.take 5 .done)))))) (by kernel_rfl) (by kernel_rfl) (fun _ _ dd _ _ h => by cases dd <;> exact h) ?_
        intro W0 hW0
        have hbW : Below w.heap.size w W0 := by rw [hW0]; exact hB.out.drew
        have f0 := HA.out.later (below_drew wA)
        have g0 := HY.out.drew
        rw [← hW0] at f0 g0
        clear hW0
        (refine pl_take (d := 12) (v := ?_) rfl rfl rfl ?_ ?_; rotate_left; (focus ((intro w' hb0 hw'; go_simp) <;> with_reducible rfl)); simp only [Act.put, List.setIfInBounds_toArray, List.set_cons_zero, List.set_cons_succ])
        (refine pl_take (d := 13) (v := ?_) rfl rfl rfl ?_ ?_; rotate_left; (focus ((intro w' hb0 hw'; go_simp) <;> with_reducible rfl)); simp only [Act.put, List.setIfInBounds_toArray, List.set_cons_zero, List.set_cons_succ])
        (refine pl_take (d := 14) (v := ?_) rfl rfl rfl ?_ ?_; rotate_left; (focus ((intro w' hb0 hw'; go_simp) <;> with_reducible rfl)); simp only [Act.put, List.setIfInBounds_toArray, List.set_cons_zero, List.set_cons_succ])
        refine pl_take (d := 15) (v := .agg s.cells.toArray) rfl rfl rfl ?_ ?_
        · intro w' hb0 hw'
          exact run_load_at rfl (f0.later hw') (by rfl) row29
        simp only [Act.put, List.setIfInBounds_toArray, List.set_cons_zero, List.set_cons_succ]
        refine pl_take (d := 16) (v := .agg e.cells.toArray) rfl rfl rfl ?_ ?_
        · intro w' hb0 hw'
          exact run_load_blk rfl (g0.later hw') (by rfl) row29
        simp only [Act.put, List.setIfInBounds_toArray, List.set_cons_zero, List.set_cons_succ]
        refine pl_take (d := 17) (v := .bool false) rfl rfl rfl ?_ ?_
        · intro w' hb0 hw'
          have he := eql29 s e w'
          rw [decide_eq_false HQ.out] at he
          exact run_binOp rfl (by rfl) (by rfl) (guard29 _ _ _ _ _ _) he
        simp only [Act.put, List.setIfInBounds_toArray, List.set_cons_zero, List.set_cons_succ]
        refine pl_end ?_
        go_wp2_with fail
        go_roundw
        case measure => (simp [intOf]) <;> omega
        case rel => exact ⟨k + 1, by omega, rfl, HN2, Lib.hid (g0), Lib.hid hbW⟩
    · obtain rfl : k = l.length := by omega
      have HF2 : Hid (inD l e = false) := any_none (isE e) l (fun j hj => hS.out j hj hj)
      have hb1 := hB.out
      clear hS
      go_wp2
      refine bodyPost_ret (v := .bool false) (by simp [results, Try.results28, go_sem]) rfl ⟨by rw [HF2.out], hb1⟩

theorem contains30 (l : List En) (e : En) (w : World) (oa : Option Addr) (m c : Nat) (h : REn w oa m c l) :
    Calls Try.prog 30 #[.slice oa m c, .agg e.cells.toArray] w fun r w' => r = .returned (.bool (inD l e)) ∧ Below w.heap.size w w' := by
  have hal : Below w.heap.size w (w.alloc (.cells e.cells.toArray 29)) := (Below.refl _ _).alloc (Nat.le_refl _) _
  have hX : Blk (w.alloc (.cells e.cells.toArray 29)) w.heap.size e.cells := Blk.new' rfl
  have HB := Lib.hid hal; have HX := Lib.hid hX; have H := Lib.hid (h.below hal)
  have HGE : Hid (decide (0 ≤ idxD (isE e) l) = inD l e) := idxD_ge _ _
  clear hal hX h
  go_enter Try.func30, Try.ntmps30
  go_wp2_with (refine stop_load (ty := 29) rfl ?_)
  refine ⟨wpList_load_blk rfl rfl HX.out (by rfl) row29 ?_⟩
  go_wp2_with fail
  refine (index39 l e _ oa m c H.out).mono ?_
  rintro r w1 ⟨rfl, hb⟩
  have HB2 := Lib.hid (below_step HB.out hb); clear hb HB HX H
  go_wp2
  refine bodyPost_ret (v := .bool (decide (0 ≤ idxD (isE e) l))) (by simp [results, Try.results30, go_sem]) rfl ⟨by rw [HGE.out], HB2.out⟩

theorem indexFunc40 (g : FuncId) (eg : ∀ args w, (callFunc g args).run Try.prog w = .ok (.enter g args) w) (B : Nat) (p : Ses → Bool) (C : World → Prop) (hC : ∀ W W', C W → Below W.heap.size W W' → C W')
    (hf : ∀ (s : Ses) (W : World), C W → Calls Try.prog g #[.agg s.cells.toArray, .pointer (some ⟨B, 0, none⟩)] W fun r W' => r = .returned (.bool (p s)) ∧ Below W.heap.size W W')
    (l : List Ses) (w : World) (oa : Option Addr) (n c : Nat) (h : RSes w oa n c l) (hw : C w) :
    Calls Try.prog 40 #[.slice oa n c, .func (.func g) #[] #[.pointer (some ⟨B, 0, none⟩)]] w fun r w' => r = .returned (.int .i64 (idxD p l)) ∧ Below w.heap.size w w' := by
  obtain rfl : n = l.length := h.rows.len
  have H := Lib.hid h; have HC := Lib.hid hC; have HF := Lib.hid hf; have HW := Lib.hid hw; clear h hC hf hw
  go_enter Try.func40, Try.ntmps40
  go_wp2
  go_loopw [5, 8] (fun _ i wr => ∃ k : Nat, k ≤ l.length ∧ i = .int .i64 k ∧ Hid (∀ j (h : j < l.length), j < k → p l[j] = false) ∧ Hid (Below w.heap.size w wr)) (fun _ i _ => l.length - (intOf i).toNat)
  case atStart => exact ⟨0, by omega, rfl, Lib.hid (fun j _ h => by omega), by (with_reducible try refine Lib.hid ?_); (repeat (with_reducible first | assumption | exact Below.refl _ _ | apply Below.drew | apply Below.drewN' | apply Below.setCell | apply Below.alloc)) <;> (try simp [length_fillTo, length_turnTo]) <;> (try omega)⟩
  case round =>
    obtain ⟨k, hk, rfl, hS, hbel⟩ := hrel
    by_cases hlt : k < l.length
    · have hi1 : (k : Int) < (l.length : Int) := by omega
      have rk : IntKind.i64.wrap ((k : Int) + 1) = ((k + 1 : Nat) : Int) := by
        have h1 := H.out.le; have h2 := H.out.cap
        simp only [maxLen] at h2
        rw [IntKind.wrap_i64]; omega
      obtain ⟨b1, p1, rfl, hA⟩ := (H.out.rows.below hbel.out).ses hlt
      have HY : Hid (p l[k] = true → idxD p l = (k : Int)) := idxD_at p l k hlt hS.out
      have HN : Hid (p l[k] = false → ∀ j (h : j < l.length), j < k + 1 → p l[j] = false) := by
        intro ht j hj hjk
        by_cases e : j = k
        · subst e; exact ht
        · exact hS.out j hj (by omega)
      obtain ⟨s, hs⟩ : ∃ s, l[k] = s := ⟨_, rfl⟩
      rw [hs] at hA HY HN
      clear hs hS
      go_wp2_with (refine stop_load (ty := 77) rfl ?_)
      refine ⟨wpList_load_at rfl rfl hA (by rfl) row77 ?_⟩
      clear hA
      go_wp2_with fail
      refine (HF.out s wr (HC.out _ _ HW.out hbel.out)).mono ?_
      rintro r w1 ⟨rfl, hb⟩
      have HB := Lib.hid (below_step hbel.out hb); clear hb hbel
      cases hp : p s
      · have HN2 := Lib.hid (HN.out hp)
        clear HN HY
        go_wp2
        go_roundw
        case measure => (simp [intOf]) <;> omega
        case rel => exact ⟨k + 1, by omega, rfl, HN2, HB⟩
      · have HY2 := Lib.hid (HY.out hp)
        clear HN HY
        go_wp2
        refine bodyPost_ret (v := .int .i64 (k : Int)) (by simp [results, Try.results40, go_sem]) rfl ⟨by rw [HY2.out], HB.out⟩
    · obtain rfl : k = l.length := by omega
      have HF2 := Lib.hid (idxD_none p l (fun j hj => hS.out j hj hj))
      have hb1 := hbel.out
      clear hS
      go_wp2
      refine bodyPost_ret (v := .int .i64 (-1)) (by simp [results, Try.results40, go_sem]) rfl ⟨by rw [HF2.out], hb1⟩
theorem containsFunc31 (g : FuncId) (eg : ∀ args w, (callFunc g args).run Try.prog w = .ok (.enter g args) w) (B : Nat) (p : Ses → Bool) (C : World → Prop) (hC : ∀ W W', C W → Below W.heap.size W W' → C W')
    (hf : ∀ (s : Ses) (W : World), C W → Calls Try.prog g #[.agg s.cells.toArray, .pointer (some ⟨B, 0, none⟩)] W fun r W' => r = .returned (.bool (p s)) ∧ Below W.heap.size W W')
    (l : List Ses) (w : World) (oa : Option Addr) (n c : Nat) (h : RSes w oa n c l) (hw : C w) :
    Calls Try.prog 31 #[.slice oa n c, .func (.func g) #[] #[.pointer (some ⟨B, 0, none⟩)]] w fun r w' => r = .returned (.bool (l.any p)) ∧ Below w.heap.size w w' := by
  have HC := indexFunc40 g eg B p C hC hf l w oa n c h hw
  have HGE := Lib.hid (idxD_ge p l)
  clear hC hf h hw eg
  go_enter Try.func31, Try.ntmps31
  go_wp2_with fail
  refine HC.mono ?_
  rintro r w1 ⟨rfl, hb⟩
  have HB := Lib.hid hb; clear hb
  go_wp2
  refine bodyPost_ret (v := .bool (decide (0 ≤ idxD p l))) (by simp [results, Try.results31, go_sem]) rfl ⟨by rw [HGE.out], HB.out⟩
end Go.Proofs.Ythdkgcmoagookaa
