/-
  Walks: sessions from the last one on (an iterator); the one by which a peer is spoken to.
-/
import Derived.RangeFuncNested
import Derived.RangeFuncBound
import Derived.RangeFuncCalls
import Derived.RangeFuncLeaves
import Derived.Shelf.Abstract
import Derived.Shelf.RegionOpen
import Derived.OwnWalkIn
import Derived.TacticsInMore
import Derived.LoopNIn
import Derived.LoopIn
import Derived.Test.YtmfglppgpjplfaaWu
namespace Go.Proofs.Ytmfglppgpjplfaa
open Go.RowKit Go.Shelf Go.Proofs.Ytmfglppgpjplfaa.Plan Go.Proofs.Ytmfglppgpjplfaa.Eager
set_option maxHeartbeats 4000000
set_option maxRecDepth 20000
set_option linter.unusedVariables false
set_option linter.unusedSimpArgs false
attribute [local go_sem] Oper.semAt_some

section
variable {F : Fence} {n : Nat} {P : Program} {w : World} {ops : Array Oper} {rest : List Oper} {o : Oper} {a : Act} {Q : Exit → Act → World → Prop}
theorem stop_loadIn {x : Operand} {ty : TypeId} (_ : o.op = .load ty x) (h : Stop (wpListIn F n P ops Q (o :: rest) a w)) : wpListIn F n P ops Q (o :: rest) a w := h.out
theorem stop_storeIn {x y : Operand} {ty : TypeId} (_ : o.op = .store ty x y) (h : Stop (wpListIn F n P ops Q (o :: rest) a w)) : wpListIn F n P ops Q (o :: rest) a w := h.out
theorem wpListIn_load_at (hw : Region.wanted o (yielded ops a.tmps) = true) {ty : TypeId} {x : Operand} (ho : o.op = .load ty x) {b off : Nat} {cs : List Value} (hB : At w b off cs) (hx : a.eval x = .pointer (some ⟨b, off, none⟩)) (hT : RowTy P ty cs.length)
    (h : wpListIn F n P ops Q rest (a.put o.dst (.agg cs.toArray)) w) : wpListIn F n P ops Q (o :: rest) a w := by
  refine Go.BigFrame.wpListIn_want hw fun K hK => ?_
  have hr := run_load_at (P := P) ho hB hx hT
  unfold Oper.wpIn
  refine ⟨fun f hf => by simp [Oper.about, ho] at hf, ?_⟩
  rw [Oper.semAt_plain F _ _ (by rw [ho]; intro c hc'; cases hc'), hr]
  exact hK _ _ h
theorem wpListIn_store_blk (hw : Region.wanted o (yielded ops a.tmps) = true) {ty : TypeId} {x y : Operand} (ho : o.op = .store ty x y) {b : Nat} {cs vs : List Value} (hB : Blk w b cs) (hx : a.eval x = .pointer (some ⟨b, 0, none⟩)) (hy : a.eval y = .agg vs.toArray)
    (hT : RowTy P ty vs.length) (hl : vs.length = cs.length) (h1 : ∀ v ∈ vs, v.oneCell' = true)
    (h : ∀ w', Blk w' b vs → w.grownBy w' (some b) → wpListIn F n P ops Q rest (a.put o.dst undef) w') : wpListIn F n P ops Q (o :: rest) a w := by
  refine Go.BigFrame.wpListIn_want hw fun K hK => ?_
  have ht : w.there b 0 vs.toArray.size := fun j hj => ⟨by rw [Nat.zero_add, hB.at' j (by simpa [hl] using hj)]; rfl, hB.froz _⟩
  have hr := run_storeVar_mid (P := P) w b 0 ty vs.toArray ht (by simpa using hT.size) (all_oneCell_toArray h1)
  unfold Oper.wpIn
  refine ⟨fun f hf => by simp [Oper.about, ho] at hf, ?_⟩
  rw [Oper.semAt_plain F _ _ (by rw [ho]; intro c hc'; cases hc')]
  unfold execOp
  simp only [ho, hx, hy, Instr.storeAt, Instr.sureAddr, Sem.run_bind, Sem.run_pure, Result.andThen_ok, hr]
  exact hK _ _ (h _ (by simpa using hB.setAll hl) (setCells_grown b _ 0 w))
end

/-- what has come when k rounds are over -/
def upto {α : Type} (f : Nat → α) (k : Nat) : List α := (List.range k).map f
theorem upto_succ {α : Type} (f : Nat → α) (k : Nat) : upto f (k + 1) = upto f k ++ [f k] := by simp [upto, List.range_succ]
theorem upto_length {α : Type} (f : Nat → α) (k : Nat) : (upto f k).length = k := by simp [upto]
/-- the j-th from behind -/
def bk (l : List Ses) (j : Nat) : Nat × Ses := (l.length - 1 - j, l.getD (l.length - 1 - j) ses0)
def encB (x : Nat × Ses) : Array Value := #[.int .i64 (x.1 : Int), .agg x.2.cells.toArray]

/-- what a round keeps: what lay below n₀, and the slice's box -/
def KpB (n₀ Bs : Nat) (W W' : World) : Prop := Below n₀ W W' ∧ W'.cell? ⟨Bs, 0, none⟩ = W.cell? ⟨Bs, 0, none⟩
theorem back49 (F : Fence) (n : Nat) (h49 : F.fn 49) (hro : F.round = none) (hn : 1 ≤ n) (lp Bs : Nat) (w0 : World) (oa : Option Addr) (c : Nat) (l : List Ses) (J Jx : List (Nat × Ses) → World → Prop)
    (hY : ∀ pre x W, J pre W → pre.length < l.length → YieldAt F (n - 1) Try.prog lp (encB x) W fun e W' =>
      (e = .returned (.bool true) ∧ J (pre ++ [x]) W' ∧ KpB w0.heap.size Bs W W') ∨ (e = .returned (.bool false) ∧ Jx (pre ++ [x]) W'))
    (W : World) (hBs : W.cell? ⟨Bs, 0, none⟩ = some (.slice oa l.length c)) (h : RSes w0 oa l.length c l) (hW : Below w0.heap.size w0 W) (h0 : J [] W) :
    CallsIn F n Try.prog 49 #[.func (.yield lp) #[] #[], .pointer (some ⟨Bs, 0, none⟩)] W fun e W' => (∃ v, e = .returned v) ∧
      ((∃ ys, ys = upto (bk l) l.length ∧ J ys W') ∨ (∃ pre, (∃ k, k ≤ l.length ∧ pre = upto (bk l) k) ∧ Jx pre W')) := by
  refine callsIn_of_wp Try.func49 rfl h49 ?_ hro
  simp only [Try.ntmps49, List.size_toArray, List.length_cons, List.length_nil, Nat.reduceAdd, Nat.reduceSub, Array.replicate_succ, Array.replicate_zero, List.push_toArray, List.append_toArray, List.nil_append, List.cons_append]
  have H := Lib.hid h; have HY := Lib.hid hY; have HC := Lib.hid hBs; have HW := Lib.hid hW
  obtain ⟨q0, hq0⟩ : ∃ q0 : Int, (l.length : Int) - 1 = q0 := ⟨_, rfl⟩
  have rk : IntKind.i64.wrap ((l.length : Int) - 1) = q0 := by
    have h1 := H.out.le; have h2 := H.out.cap
    simp only [maxLen] at h2
    rw [IntKind.wrap_i64]; omega
  have HQ0 := Lib.hid hq0
  clear h hY hq0 hW
  gi_wp2
  clear rk hBs
  gi_loopw [3] (fun i wr => ∃ (k : Nat) (q : Int), k ≤ l.length ∧ i = .int .i64 q ∧ Hid (q = (l.length : Int) - 1 - k) ∧ J (upto (bk l) k) wr ∧ Hid (Below w0.heap.size w0 wr) ∧ Hid (wr.cell? ⟨Bs, 0, none⟩ = some (.slice oa l.length c))) (fun i _ => (intOf i + 1).toNat)
  case atStart => exact ⟨0, q0, Nat.zero_le _, rfl, Lib.hid (by have := HQ0.out; omega), h0, HW, HC⟩
  case round =>
    obtain ⟨k, q, hk, rfl, hq, hJ, hb, hc⟩ := hrel
    by_cases hlt : k < l.length
    · obtain ⟨m, rfl⟩ : ∃ m : Nat, q = (m : Int) := ⟨l.length - 1 - k, by have := hq.out; omega⟩
      have hm : m = l.length - 1 - k := by have := hq.out; omega
      have hml : m < l.length := by omega
      have hm0 : (0 : Int) ≤ (m : Int) := by omega
      have hm1 : (m : Int) < (l.length : Int) := by omega
      obtain ⟨q', hq'⟩ : ∃ q' : Int, (m : Int) - 1 = q' := ⟨_, rfl⟩
      have rk : IntKind.i64.wrap ((m : Int) - 1) = q' := by
        have h1 := H.out.le; have h2 := H.out.cap
        simp only [maxLen] at h2
        rw [IntKind.wrap_i64]; omega
      obtain ⟨b1, p1, rfl, hA⟩ := (H.out.rows.below hb.out).ses hml
      have hcx := hc.out
      have HE : Hid (bk l k = (m, l[m])) := by
        show _ = _
        unfold bk
        rw [← hm, List.getD_eq_getElem?_getD, List.getElem?_eq_getElem hml]; rfl
      obtain ⟨s, hs⟩ : ∃ s, l[m] = s := ⟨_, rfl⟩
      rw [hs] at hA HE
      have HQ := Lib.hid hq'; have HM := Lib.hid hm
      have HA := Lib.hid hA
      obtain ⟨fn, tmps, assign, body, hy, hR⟩ := HY.out _ (m, s) wr hJ (by rw [upto_length]; exact hlt)
      simp only [encB] at hy
      clear hs hq' hm hA hq hml
      gi_wp2_with (refine stop_loadIn (ty := 30) rfl ?_)
      refine ⟨wpListIn_load_at (by rfl) rfl HA.out (by rfl) row30 ?_⟩
      gi_wp2
      refine hR.mono ?_
      rintro e W3 (⟨rfl, hJ3, hk3⟩ | ⟨rfl, hJx3⟩)
      · gi_wp2
        go_roundw
        case rel => exact ⟨k + 1, q', by omega, rfl, Lib.hid (by have := HQ.out; have := HM.out; omega), by rw [upto_succ, HE.out]; exact hJ3, Lib.hid (hb.out.trans hk3.1), Lib.hid (hk3.2.trans hc.out)⟩
        case measure => have := HQ.out; simp [intOf]; omega
      · gi_wp2
        refine bodyPost_ret (results_none rfl _ _ _) rfl ?_
        exact ⟨⟨_, rfl⟩, .inr ⟨_, ⟨k + 1, by omega, by rw [upto_succ, HE.out]⟩, hJx3⟩⟩
    · obtain rfl : k = l.length := by omega
      have hq1 : ¬ (0 : Int) ≤ q := by have := hq.out; omega
      gi_wp2
      go_end0
      first | exact ⟨⟨_, rfl⟩, .inl ⟨_, rfl, hJ⟩⟩ | exact ⟨⟨_, rfl⟩, .inl hJ⟩

theorem kpB_t {n₀ Bs : Nat} {A B C : World} (h : KpB n₀ Bs A B) (k : KpB n₀ Bs B C) : KpB n₀ Bs A C := ⟨h.1.trans k.1, k.2.trans h.2⟩
theorem kpB_b {n₀ Bs : Nat} {w : World} (hn : n₀ ≤ w.heap.size) (hB : Bs < w.heap.size) (W : World) (l : Nat) (o o' : Obj) (hl : w.heap.size ≤ l) (h : W.heap[l]? = some o) (h1 : o.isCells = false) (h2 : o.isWalk = false) : KpB n₀ Bs W (W.putObj l o') :=
  ⟨belowK_b hn W l o o' hl h h1 h2, by
    have hs := (Array.getElem?_eq_some_iff.1 h).1
    have hb : (W.putObj l o').heap[Bs]? = W.heap[Bs]? := (grownBy_putObj' W l o').block Bs (by omega) (by intro e; cases e; omega)
    simp only [World.cell?, hb]⟩
theorem back_stops (F : Fence) (n : Nat) (h49 : F.fn 49) (hro : F.round = none) (hn : 1 ≤ n) (Bs : Nat) (w0 w : World) (oa : Option Addr) (c : Nat) (l : List Ses) (h : RSes w0 oa l.length c l) (hw : Below w0.heap.size w0 w) (hBs : Bs < w.heap.size)
    (hc : w.cell? ⟨Bs, 0, none⟩ = some (.slice oa l.length c)) :
    SeqStopsK F n Try.prog 49 #[.pointer (some ⟨Bs, 0, none⟩)] encB (KpB w0.heap.size Bs) (fun ys => ys = upto (bk l) l.length) (fun pre => ∃ k, k ≤ l.length ∧ pre = upto (bk l) k) l.length w := fun lp J Jx W hW _ _ hY h0 =>
  back49 F n h49 hro hn lp Bs w0 oa c l J Jx hY W ((hW.cell (p := ⟨Bs, 0, none⟩) hBs).trans hc) h (hw.trans (hW.mono hw.size)) h0
theorem backward40 (oa : Option Addr) (n c : Nat) (w : World) :
    Calls Try.prog 40 #[.slice oa n c] w fun e w' => e = .returned (.func (.func 49) #[] #[.pointer (some ⟨w.heap.size, 0, none⟩)]) ∧ w' = w.alloc (.cells #[.slice oa n c] 22) := by
  go_enter Try.func40, Try.ntmps40
  go_wp2
  refine bodyPost_ret (v := .func (.func 49) #[] #[.pointer (some ⟨w.heap.size, 0, none⟩)]) (by simp [results, Try.results40, go_sem]) rfl ⟨rfl, rfl⟩

theorem Blk.isCells {W : World} {b : Nat} {cs : List Value} (h : Blk W b cs) (h0 : 0 < cs.length) {o : Obj} (ho : W.heap[b]? = some o) (hc : o.isCells = false) : False := by
  have := h.at' 0 h0
  simp only [World.cell?, ho] at this
  cases o <;> simp_all [Obj.isCells]
theorem blk_own {β : Type} (b : Nat) (f : β → List Value) (h0 : ∀ s, 0 < (f s).length) : Go.Own (fun s W => Blk W b (f s)) := fun s X Y row hs hg hrow =>
  hs.grown hg (fun e => by obtain ⟨o, ho, hc⟩ := hrow b e; exact hs.isCells (h0 s) ho hc)
theorem keeps_below {W W' : World} (h : Below W.heap.size W W') : KeepsOthers W W' := ⟨h.size, fun k o hk _ => (h.block k (Array.getElem?_eq_some_iff.1 hk).1).trans hk⟩

theorem last_down (p : Ses → Bool) (l : List Ses) : ∀ k, k ≤ l.length → (∀ y ∈ upto (bk l) k, p y.2 = false) → lastN p l l.length = lastN p l (l.length - k)
  | 0, _, _ => rfl
  | k + 1, hk, h => by
    rw [upto_succ] at h
    rw [last_down p l k (by omega) (fun y hy => h y (List.mem_append.2 (.inl hy)))]
    have h1 := h (bk l k) (List.mem_append.2 (.inr (by simp)))
    obtain ⟨m, hm⟩ : ∃ m, l.length - k = m + 1 := ⟨l.length - k - 1, by omega⟩
    have hml : m < l.length := by omega
    have e1 : l.length - (k + 1) = m := by omega
    have e2 : l.length - 1 - k = m := by omega
    unfold bk at h1
    rw [e2, List.getD_eq_getElem?_getD, List.getElem?_eq_getElem hml] at h1
    rw [hm, e1, lastN, List.getElem?_eq_getElem hml]
    simp only [Option.getD_some] at h1
    simp [h1]
theorem last_all (p : Ses → Bool) (l : List Ses) (h : ∀ y ∈ upto (bk l) l.length, p y.2 = false) : lastN p l l.length = -1 := by
  rw [last_down p l l.length (Nat.le_refl _) h, Nat.sub_self]; rfl
theorem last_hit (p : Ses → Bool) (l : List Ses) (k : Nat) (hk : k ≤ l.length) (ini : List (Nat × Ses)) (last : Nat × Ses) (he : upto (bk l) k = ini ++ [last]) (h : ∀ y ∈ ini, p y.2 = false) (h1 : p last.2 = true) : lastN p l l.length = (last.1 : Int) := by
  cases k with
  | zero => simp [upto] at he
  | succ k =>
    rw [upto_succ] at he
    obtain ⟨e1, e2⟩ := List.append_inj' he rfl
    cases e2
    subst e1
    rw [last_down p l k (by omega) h]
    obtain ⟨m, hm⟩ : ∃ m, l.length - k = m + 1 := ⟨l.length - k - 1, by omega⟩
    have hml : m < l.length := by omega
    have e2 : l.length - 1 - k = m := by omega
    unfold bk at h1 ⊢
    simp only [e2] at h1 ⊢
    rw [List.getD_eq_getElem?_getD, List.getElem?_eq_getElem hml] at h1
    simp only [Option.getD_some] at h1
    rw [hm, lastN, List.getElem?_eq_getElem hml]
    simp [h1]

theorem for20 (l : List Ses) (e : En) (w : World) (oa : Option Addr) (m c : Nat) (h : RSes w oa m c l) :
    Calls Try.prog 20 #[.slice oa m c, .agg e.cells.toArray] w fun r w' => r = .returned (.int .i64 (lastN (forD e) l l.length)) ∧ Below w.heap.size w w' := by
  obtain rfl : m = l.length := h.rows.len
  refine (callsIn_wide (n := 8)).1 ?_
  refine callsIn_of_wp_marks Try.func20 rfl trivial ?_ rfl
  simp only [Try.ntmps20, List.size_toArray, List.length_cons, List.length_nil, Nat.reduceAdd, Nat.reduceSub, Array.replicate_succ, Array.replicate_zero, List.push_toArray, List.append_toArray, List.nil_append, List.cons_append]
  gi_wp2_with fail
  refine ⟨trivial, callsIn_wide.2 ((backward40 oa _ c _).mono ?_)⟩
  rintro r w1 ⟨rfl, rfl⟩
  gi_wp2_with fail
  have hE0 : Blk (((w.alloc (.cells e.cells.toArray 26)).alloc (.cells #[.int .i64 0] 3)).alloc (.cells #[.slice oa l.length c] 22)) w.heap.size e.cells := ((Blk.new' rfl).alloc _).alloc _
  have hR0 := (Boxed.new (w.alloc (.cells e.cells.toArray 26)) 3 (.int .i64 0)).alloc (.cells #[.slice oa l.length c] 22)
  have hS0 := Boxed.new ((w.alloc (.cells e.cells.toArray 26)).alloc (.cells #[.int .i64 0] 3)) 22 (.slice oa l.length c)
  simp only [World.size_alloc] at hR0 hS0
  have hB0 : Below w.heap.size w (((w.alloc (.cells e.cells.toArray 26)).alloc (.cells #[.int .i64 0] 3)).alloc (.cells #[.slice oa l.length c] 22)) := (((Below.refl _ w).alloc (Nat.le_refl _) _).alloc (by simp) _).alloc (by simp; omega) _
  have hsz : (((w.alloc (.cells e.cells.toArray 26)).alloc (.cells #[.int .i64 0] 3)).alloc (.cells #[.slice oa l.length c] 22)).heap.size = w.heap.size + 3 := by simp
  obtain ⟨W0, hW0⟩ : ∃ W0, ((w.alloc (.cells e.cells.toArray 26)).alloc (.cells #[.int .i64 0] 3)).alloc (.cells #[.slice oa l.length c] 22) = W0 := ⟨_, rfl⟩
  rw [hW0] at hE0 hR0 hS0 hB0 hsz ⊢
  clear hW0
  refine wpIn_rangeFunc_ownH rfl (by omega) (gf := 49) (lb := #[.pointer (some ⟨w.heap.size + 1 + 1, 0, none⟩)]) rfl trivial (enters_of Try.func49 (by kernel_rfl) rfl)
    (back_stops Fence.wide 7 trivial rfl (by omega) (w.heap.size + 1 + 1) w W0 oa c l h hB0 (by omega) hS0.cell) kpB_t (kpB_b (by omega) (by omega)) (Below.refl _ _) (fun _ => rfl)
    (fun pre W => ((∀ y ∈ pre, forD e y.2 = false) ∧ Blk W w.heap.size e.cells ∧ Boxed W (w.heap.size + 1) 3 (.int .i64 0) ∧ Boxed W (w.heap.size + 1 + 1) 22 (.slice oa l.length c)) ∧ Below w.heap.size w W)
    (fun c pre W => (c = .ret ∧ ∃ ini last, pre = ini ++ [last] ∧ (∀ y ∈ ini, forD e y.2 = false) ∧ forD e last.2 = true ∧ Boxed W (w.heap.size + 1) 3 (.int .i64 (last.1 : Int))) ∧ Below w.heap.size w W)
    (OwnFrom.and (Go.Own.from (fun s A B row hs hg hr => ⟨hs.1, blk_own _ (fun _ : Unit => e.cells) (by simp [En.cells]) () A B row hs.2.1 hg hr, boxed_own _ _ (fun _ : Unit => Value.int .i64 0) () A B row hs.2.2.1 hg hr, boxed_own _ _ (fun _ : Unit => Value.slice oa l.length c) () A B row hs.2.2.2 hg hr⟩) _) (ownFrom_below (Nat.le_refl _) (by omega)))
    (fun c => OwnFrom.and (Go.Own.from (fun s A B row hs hg hr => by obtain ⟨hc, ini, last, e1, e2, e3, e4⟩ := hs; exact ⟨hc, ini, last, e1, e2, e3, boxed_own _ _ (fun _ : Unit => Value.int .i64 (last.1 : Int)) () A B row e4 hg hr⟩) _) (ownFrom_below (Nat.le_refl _) (by omega)))
    ⟨⟨by simp, hE0, hR0, hS0⟩, hB0⟩
    (fun x a' W => ∃ Bx, w.heap.size + 2 < Bx ∧ Blk W Bx x.2.cells ∧ a' = { tmps := #[.slice oa l.length c, .agg e.cells.toArray, undef, .pointer (some ⟨w.heap.size, 0, none⟩), .pointer (some ⟨w.heap.size + 1, 0, none⟩), .int .i64 (x.1 : Int), .pointer (some ⟨Bx, 0, none⟩), .slice oa l.length c, .func (.func 49) #[] #[.pointer (some ⟨w.heap.size + 1 + 1, 0, none⟩)], .int .i64 (x.1 : Int), .agg x.2.cells.toArray, undef, undef, undef, undef, undef, undef, undef, undef, undef, undef, undef, undef, undef, undef, undef], defers := [] })
    (fun x a' _ X Y row hs hg hr => by obtain ⟨Bx, h1, h2, h3⟩ := hs; exact ⟨Bx, h1, blk_own Bx (fun (_ : Unit) => x.2.cells) (by simp [Ses.cells]) () X Y row h2 hg (fun r e => (hr r e).2), h3⟩)
    ?assign ?body ?done ?stop
  case assign =>
    rintro lp pre ⟨i, s⟩ W K ⟨⟨hp, hE, hR, hS⟩, hB⟩ hK
    have hZ : Blk (W.alloc (.cells ses0.cells.toArray 30)) W.heap.size ses0.cells := Blk.new' rfl
    have hal : Below W.heap.size W (W.alloc (.cells ses0.cells.toArray 30)) := (Below.refl _ _).alloc (Nat.le_refl _) _
    have HK := Lib.hid hK; have HI := Lib.hid (And.intro hp (And.intro hE (And.intro hR (And.intro hS hB)))); have HZ := Lib.hid hZ; have HAL := Lib.hid hal
    clear hK hp hE hR hS hB hZ hal
    simp only [encB]
    gi_wp2_with (refine stop_storeIn (ty := 30) rfl ?_)
    refine ⟨wpListIn_store_blk (by rfl) rfl HZ.out (by rfl) (vs := s.cells) (by rfl) row30 rfl (ses_one _) ?_⟩
    intro W5 hX5 hg5
    have hb5 := Below.grownB HAL.out hg5 (Nat.le_refl _) HAL.out.size
    have hI := HI.out
    gi_wp2
    obtain ⟨hp, hE, hR, hS, hB⟩ := hI
    refine HK.out _ _ ((keeps_below hb5).from _) ⟨hb5.mono hB.size, hb5.cell (p := ⟨w.heap.size + 1 + 1, 0, none⟩) hS.lt⟩ ⟨⟨hp, hE.later hb5, (hb5.block _ hR.lt).trans hR, (hb5.block _ hS.lt).trans hS⟩, hB.trans (hb5.mono hB.size)⟩ ⟨W.heap.size, by have := hS.lt; omega, hX5, rfl⟩
  case body =>
    rintro lp pre ⟨i, s⟩ a' W hl ⟨r, hr⟩ ⟨⟨hp, hE, hR, hS⟩, hB⟩ ⟨Bx, hBx, hX, rfl⟩ hlt
    have HP := Lib.hid hp; have HE := Lib.hid hE; have HR := Lib.hid hR; have HS := Lib.hid hS; have HB := Lib.hid hB; have HX := Lib.hid hX
    have HW0 := Lib.hid hsz
    have hbl := hX.lt
    have hel := hE.lt
    clear hl hr hp hE hR hS hB hX hlt hsz hE0 hR0 hS0 hB0
    simp only [] at HX
    have HF : Hid (forD e s = (decide (s.state = 3) && (whoD s.peer e && !spentD s))) := rfl
    have x9 : W.cell? ⟨Bx, 9, none⟩ = some (.int .i64 s.state) := ses_at HX.out 9 (by omega)
    have fin : forD e s = false → ∀ W', Below W.heap.size W W' → KeepsFrom W0.heap.size W W' ∧ KpB w.heap.size (w.heap.size + 1 + 1) W W' ∧ (((∀ y ∈ pre ++ [(i, s)], forD e y.2 = false) ∧ Blk W' w.heap.size e.cells ∧ Boxed W' (w.heap.size + 1) 3 (.int .i64 0) ∧ Boxed W' (w.heap.size + 1 + 1) 22 (.slice oa l.length c)) ∧ Below w.heap.size w W') := fun hf W' hb =>
      ⟨(keeps_below hb).from _, ⟨hb.mono HB.out.size, hb.cell (p := ⟨w.heap.size + 1 + 1, 0, none⟩) HS.out.lt⟩, ⟨fun y hy => (List.mem_append.1 hy).elim (HP.out y) (fun h => by simp at h; subst h; exact hf), HE.out.later hb, (hb.block _ HR.out.lt).trans HR.out, (hb.block _ HS.out.lt).trans HS.out⟩, HB.out.trans (hb.mono HB.out.size)⟩
    have FIN := Lib.hid fin
    clear fin
    by_cases h1 : s.state = 3
    · have HW := who38 s.peer e
      simp only [En.cells] at HW
      have x2 : W.cell? ⟨Bx, 2, none⟩ = some (.string s.peer.name) := ses_at HX.out 2 (by omega)
      have x3 : W.cell? ⟨Bx, 3, none⟩ = some (.int .u64 s.peer.id) := ses_at HX.out 3 (by omega)
      have x4 : W.cell? ⟨Bx, 4, none⟩ = some (.int .i64 s.peer.frm) := ses_at HX.out 4 (by omega)
      have x5 : W.cell? ⟨Bx, 5, none⟩ = some (.int .i64 s.peer.til) := ses_at HX.out 5 (by omega)
      have x6 : W.cell? ⟨Bx, 6, none⟩ = some (.int .i64 s.peer.idx) := ses_at HX.out 6 (by omega)
      have x7 : W.cell? ⟨Bx, 7, none⟩ = some (.string s.peer.tag) := ses_at HX.out 7 (by omega)
      have y0 : W.cell? ⟨w.heap.size, 0, none⟩ = some (.string e.name) := HE.out.at' 0 (by simp [En.cells])
      have y1 : W.cell? ⟨w.heap.size, 1, none⟩ = some (.int .u64 e.id) := HE.out.at' 1 (by simp [En.cells])
      have y2 : W.cell? ⟨w.heap.size, 2, none⟩ = some (.int .i64 e.frm) := HE.out.at' 2 (by simp [En.cells])
      have y3 : W.cell? ⟨w.heap.size, 3, none⟩ = some (.int .i64 e.til) := HE.out.at' 3 (by simp [En.cells])
      have y4 : W.cell? ⟨w.heap.size, 4, none⟩ = some (.int .i64 e.idx) := HE.out.at' 4 (by simp [En.cells])
      have y5 : W.cell? ⟨w.heap.size, 5, none⟩ = some (.string e.tag) := HE.out.at' 5 (by simp [En.cells])
      gi_wp2_with fail
      refine ⟨trivial, CallsIn.inRound lp (callsIn_wide.2 ((HW _).mono ?_))⟩
      rintro r w1 ⟨rfl, hb⟩
      have HB1 := Lib.hid hb
      have HX1 := Lib.hid (HX.out.later hb)
      clear hb HW x2 x3 x4 x5 x6 x7 x9 y0 y1 y2 y3 y4 y5
      cases h2 : whoD s.peer e
      · have HN : Hid (forD e s = false) := by show _ = _; rw [HF.out, h2]; simp
        clear HF h2 h1
        gi_wp2
        repeat (refine ⟨(trivial : Fence.wide.fn 41), ?_⟩; gi_wp2)
        exact FIN.out HN.out _ HB1.out
      · gi_wp2_with (refine stop_loadIn (ty := 30) rfl ?_)
        refine ⟨wpListIn_load_at (by rfl) rfl HX1.out.at_ (by rfl) row30 ?_⟩
        gi_wp2_with fail
        refine ⟨trivial, CallsIn.inRound lp (callsIn_wide.2 ((spent41 s _).mono ?_))⟩
        rintro r w2 ⟨rfl, hb⟩
        have HB2 := Lib.hid (below_step HB1.out hb)
        clear hb HB1 HX1
        cases h3 : spentD s
        · have HN : Hid (forD e s = true) := by show _ = _; rw [HF.out, h1, h2, h3]; rfl
          have hR2 : Boxed w2 (w.heap.size + 1) 3 (.int .i64 0) := (HB2.out.block _ HR.out.lt).trans HR.out
          have cR := hR2.cell
          have fR := hR2.frozen
          have hRl := hR2.lt
          have HR2 := Lib.hid hR2
          clear HF h1 h2 h3 hR2
          gi_wp2
          exact ⟨((keeps_below HB2.out).trans (KeepsOthers.setCell _ _ _)).from _, ⟨rfl, pre, (i, s), rfl, HP.out, HN.out, HR2.out.set _⟩, (HB.out.trans (HB2.out.mono HB.out.size)).setCell (p := ⟨w.heap.size + 1, 0, none⟩) (by simp) _⟩
        · have HN : Hid (forD e s = false) := by show _ = _; rw [HF.out, h3]; simp
          clear HF h1 h2 h3
          gi_wp2
          exact FIN.out HN.out _ HB2.out
    · have HN : Hid (forD e s = false) := by show _ = _; rw [HF.out]; simp [h1]
      clear HF
      gi_wp2
      repeat (refine ⟨(trivial : Fence.wide.fn 41), ?_⟩; gi_wp2)
      exact FIN.out HN.out _ (Below.refl _ _)
  case done =>
    rintro D ys W hD rfl ⟨⟨hp, hE, hR, hS⟩, hB⟩ hK
    have HV := Lib.hid (last_all (forD e) l hp)
    have cR := hR.cell; have fR := hR.frozen; have hlt := hR.lt
    clear hp
    gi_wp2
    have hK' := (KeepsOthers.setCell W ⟨w.heap.size + 1, 0, none⟩ (.int .i64 (-1))).same D _ hK rfl
    refine ⟨by simp, .inl ⟨_, _, rfl, run_takeDeferred hK', ?_⟩⟩
    have hc5 := cell_kept (World.cell?_setCell_same' W ⟨w.heap.size + 1, 0, none⟩ (.int .i64 (-1)) (by rw [cR]; rfl)) (grownBy_putObj' _ D (.deferred none)) (fun r e => by cases e; exact ⟨_, hK', rfl⟩)
    refine ⟨.int .i64 (-1), ?_, by rw [HV.out], (hB.setCell (p := ⟨w.heap.size + 1, 0, none⟩) (by simp) _).trans (belowK_b (w := w) (Nat.le_refl _) _ D _ _ (by omega) hK' rfl rfl)⟩
    simp [results, Try.results20, go_sem, hc5]
  case stop =>
    rintro D c' pre W hD ⟨k, hk, rfl⟩ ⟨⟨rfl, ini, last, he, h1, h2, hR⟩, hB⟩ hK
    have HV := Lib.hid (last_hit (forD e) l k hk ini last he h1 h2)
    have cR := hR.cell
    clear he h1 h2
    gi_wp2
    refine ⟨by simp, .inl ⟨_, _, rfl, run_takeDeferred hK, ?_⟩⟩
    have hc5 := cell_kept cR (grownBy_putObj' _ D (.deferred none)) (fun r e => by cases e; exact ⟨_, hK, rfl⟩)
    refine ⟨.int .i64 (last.1 : Int), ?_, by rw [HV.out], hB.trans (belowK_b (w := w) (Nat.le_refl _) W D _ _ (by omega) hK rfl rfl)⟩
    simp [results, Try.results20, go_sem, hc5]
end Go.Proofs.Ytmfglppgpjplfaa
