/-
  Walks: the document's sums.
-/
import Derived.Test.YthobmcpilfalgaaWc
namespace Go.Proofs.Ythobmcpilfalgaa
open Go.RowKit Go.Proofs.Ythobmcpilfalgaa.Plan Go.Proofs.Ythobmcpilfalgaa.Eager
set_option maxHeartbeats 4000000
set_option maxRecDepth 20000
set_option linter.unusedVariables false
set_option linter.unusedSimpArgs false

structure InR (t : Tal) : Prop where
  h : wrap64 t.h = t.h
  w : wrap64 t.w = t.w
  r : wrap64 t.r = t.r
  s : wrap64 t.s = t.s
  o : wrap64 t.o = t.o
theorem wrap_idem (a : Int) : wrap64 (wrap64 a) = wrap64 a := by unfold wrap64; omega
theorem InR.addT (x y : Tal) : InR (addT x y) := ⟨wrap_idem _, wrap_idem _, wrap_idem _, wrap_idem _, wrap_idem _⟩
theorem InR.t0 : InR t0 := by
  have h : wrap64 0 = 0 := by unfold wrap64; decide
  exact ⟨h, h, h, h, h⟩
theorem InR.fold : ∀ (l : List Pk) (t : Tal), InR t → InR (l.foldl (fun t p => Go.Proofs.Ythobmcpilfalgaa.addT t (oneT p)) t)
  | [], t, h => h
  | p :: l, t, h => InR.fold l _ (InR.addT _ _)
theorem InR.tally (l : List Pk) : InR (tallyOf l) := InR.fold l _ InR.t0
section
variable (t : Tal) (n : Nat) (h : InR t)
include h
theorem addT_kind0 : (addT t (kindT 0 n)).cells = (t.cells.set 5 (.int .i64 (wrap64 (t.b + (n : Int))))).set 4 (.int .i64 (wrap64 (t.o + 1))) := by
  simp [addT, kindT, Tal.cells, h.h, h.w, h.r, h.s, h.o]
theorem addT_kind1 : (addT t (kindT 1 n)).cells = (t.cells.set 5 (.int .i64 (wrap64 (t.b + (n : Int))))).set 0 (.int .i64 (wrap64 (t.h + 1))) := by
  simp [addT, kindT, Tal.cells, h.h, h.w, h.r, h.s, h.o]
theorem addT_kind2 : (addT t (kindT 2 n)).cells = (t.cells.set 5 (.int .i64 (wrap64 (t.b + (n : Int))))).set 1 (.int .i64 (wrap64 (t.w + 1))) := by
  simp [addT, kindT, Tal.cells, h.h, h.w, h.r, h.s, h.o]
theorem addT_kind3 : (addT t (kindT 3 n)).cells = (t.cells.set 5 (.int .i64 (wrap64 (t.b + (n : Int))))).set 2 (.int .i64 (wrap64 (t.r + 1))) := by
  simp [addT, kindT, Tal.cells, h.h, h.w, h.r, h.s, h.o]
theorem addT_kind4 : (addT t (kindT 4 n)).cells = (t.cells.set 5 (.int .i64 (wrap64 (t.b + (n : Int))))).set 3 (.int .i64 (wrap64 (t.s + 1))) := by
  simp [addT, kindT, Tal.cells, h.h, h.w, h.r, h.s, h.o]
end
theorem Reads.below' {w w' : World} {oa : Option Addr} {n : Nat} {l : List UInt8} (h : Reads w oa n l) (hb : Below w.heap.size w w') : Reads w' oa n l := h.below hb
/-- of all packets, or those from a name -/
def pick (all : Bool) (name : ByteArray) (l : List Pk) : List Pk := l.filter fun p => all || decide (p.frm = name)

theorem some28 (l : List Pk) (all : Bool) (name : ByteArray) (w : World) (oa : Option Addr) (n c : Nat) (h : Pks w oa n c l) (hl : l.length ≤ 900) :
    Calls Try.prog 28 #[.slice oa n c, .bool all, .string name] w fun e w' => e = .returned (.agg (tallyOf (pick all name l)).cells.toArray) ∧ Below w.heap.size w w' := by
  obtain rfl : n = l.length := h.rows.len
  have H := Lib.hid h; have HL := Lib.hid hl; clear h hl
  have hbb : Below w.heap.size w ((w.alloc (.cells t0.cells.toArray 32)).alloc (.cells t0.cells.toArray 32)) := by (with_reducible try refine Lib.hid ?_); (repeat (with_reducible first | assumption | exact Below.refl _ _ | apply Below.drew | apply Below.drewN' | apply Below.setCell | apply Below.alloc)) <;> (try simp [length_fillTo, length_turnTo]) <;> (try omega)
  have hX : Blk ((w.alloc (.cells t0.cells.toArray 32)).alloc (.cells t0.cells.toArray 32)) w.heap.size t0.cells := Blk.alloc (Blk.new' rfl) _
  have hY : Blk ((w.alloc (.cells t0.cells.toArray 32)).alloc (.cells t0.cells.toArray 32)) (w.heap.size + 1) t0.cells := Blk.new' (by simp)
  have HBB := Lib.hid hbb; have HX := Lib.hid hX; have HY := Lib.hid hY; clear hbb hX hY
  go_enter Try.func28, Try.ntmps28
  go_wp2
  go_loopw [8] (fun i wr => ∃ k : Nat, k ≤ l.length ∧ i = .int .i64 k ∧ Hid (Blk wr (w.heap.size + 1) (tallyOf (pick all name (l.take k))).cells) ∧ Hid (Blk wr w.heap.size t0.cells) ∧ Hid (Below w.heap.size w wr)) (fun i _ => l.length - (intOf i).toNat)
  case atStart => exact ⟨0, by omega, rfl, HY, HX, HBB⟩
  case round =>
    obtain ⟨k, hk, rfl, hT, hR, hB⟩ := hrel
    by_cases hlt : k < l.length
    · have hi1 : (k : Int) < (l.length : Int) := by omega
      have rk : IntKind.i64.wrap ((k : Int) + 1) = ((k + 1 : Nat) : Int) := by
        have h1 := HL.out
        rw [IntKind.wrap_i64]; omega
      have HT : Hid (tallyOf (pick all name (l.take (k + 1))) = if (all || decide (l[k].frm = name)) then addT (tallyOf (pick all name (l.take k))) (oneT l[k]) else tallyOf (pick all name (l.take k))) := by
        show _ = _
        unfold pick
        rw [List.take_succ_eq_append_getElem hlt, List.filter_append]; unfold tallyOf; rw [List.foldl_append]
        cases hh : (all || decide (l[k].frm = name)) <;> simp [hh]
      have HIN := Lib.hid (InR.tally (pick all name (l.take k)))
      obtain ⟨b1, p1, rfl, hb1, e0, e1, e2⟩ := H.out.rows.pk hlt
      have HOK := Lib.hid (H.out.ok _ (List.getElem_mem hlt))
      obtain ⟨p, hp⟩ : ∃ q, l[k] = q := ⟨_, rfl⟩
      rw [hp] at e0 e1 e2 HT HOK
      clear hp
      obtain ⟨t, ht⟩ : ∃ t, tallyOf (pick all name (l.take k)) = t := ⟨_, rfl⟩
      rw [ht] at hT HT HIN
      clear ht
      obtain ⟨v5, rv5⟩ : ∃ v, IntKind.i64.wrap (t.b + (p.n : Int)) = v := ⟨_, rfl⟩
      have HV5 : Hid (wrap64 (t.b + (p.n : Int)) = v5) := (IntWalk.i64_left _).symm.trans rv5
      have E0 := Lib.hid e0; have E1 := Lib.hid e1; have E2 := Lib.hid e2
      clear e0 e1 e2
      obtain ⟨wA, rfl⟩ : ∃ x, x = wr := ⟨_, rfl⟩
      have e0 := (hB.out.cell (p := ⟨b1, p1 + k * 3, none⟩) hb1).trans E0.out
      have hbz : b1 < wA.heap.size := Nat.lt_of_lt_of_le hb1 hB.out.size
      cases all
      case true =>
        rw [Bool.true_or, if_pos rfl] at HT
        go_wp2_with fail
        clear e0
        refine wp_region_plan none [10] [] (.take 0 (.take 1 (.take 2 (.take 3 (.take 4 (.take 5 (.take 6 (.take 7 (.take 8 (.take 9 (.tail [10]))))))))))) (by kernel_rfl) (by kernel_rfl) (fun _ _ dd _ _ h => by cases dd <;> exact h) ?_
        intro W0 hW0
        have hT0 : Blk W0 (w.heap.size + 1) t.cells := by rw [hW0]; exact hT.out.drew
        have hR0 : Blk W0 w.heap.size t0.cells := by rw [hW0]; exact hR.out.drew
        have hbW : Below w.heap.size w W0 := by rw [hW0]; exact hB.out.drew
        have f0 := (hbW.cell (p := ⟨b1, p1 + k * 3, none⟩) hb1).trans E0.out
        have f1 := (hbW.cell (p := ⟨b1, p1 + k * 3 + 1, none⟩) hb1).trans E1.out
        have f2 := (hbW.cell (p := ⟨b1, p1 + k * 3 + 2, none⟩) hb1).trans E2.out
        have fz := hT0.froz
        have lz := hT0.lt
        have cz := hT0.at' 5 (by simp [Tal.cells])
        simp only [Tal.cells, List.getElem_cons_succ, List.getElem_cons_zero] at cz
        clear hW0
        (refine pl_take (d := 27) (v := ?_) rfl rfl rfl ?_ ?_; rotate_left; (focus ((intro w' hb0 hw'; go_simp) <;> with_reducible rfl)); simp only [Act.put, List.setIfInBounds_toArray, List.set_cons_zero, List.set_cons_succ])
        (refine pl_take (d := 28) (v := ?_) rfl rfl rfl ?_ ?_; rotate_left; (focus ((intro w' hb0 hw'; have hc := hT0.later hw'; have c5 := hc.at' 5 (by simp [Tal.cells]); simp only [Tal.cells, List.getElem_cons_succ, List.getElem_cons_zero] at c5; go_simp) <;> with_reducible rfl)); simp only [Act.put, List.setIfInBounds_toArray, List.set_cons_zero, List.set_cons_succ])
        (refine pl_take (d := 29) (v := ?_) rfl rfl rfl ?_ ?_; rotate_left; (focus ((intro w' hb0 hw'; go_simp) <;> with_reducible rfl)); simp only [Act.put, List.setIfInBounds_toArray, List.set_cons_zero, List.set_cons_succ])
        (refine pl_take (d := 30) (v := ?_) rfl rfl rfl ?_ ?_; rotate_left; (focus ((intro w' hb0 hw'; go_simp) <;> with_reducible rfl)); simp only [Act.put, List.setIfInBounds_toArray, List.set_cons_zero, List.set_cons_succ])
        (refine pl_take (d := 31) (v := ?_) rfl rfl rfl ?_ ?_; rotate_left; (focus ((intro w' hb0 hw'; go_simp) <;> with_reducible rfl)); simp only [Act.put, List.setIfInBounds_toArray, List.set_cons_zero, List.set_cons_succ])
        (refine pl_take (d := 32) (v := ?_) rfl rfl rfl ?_ ?_; rotate_left; (focus ((intro w' hb0 hw'; go_simp) <;> with_reducible rfl)); simp only [Act.put, List.setIfInBounds_toArray, List.set_cons_zero, List.set_cons_succ])
        (refine pl_take (d := 33) (v := ?_) rfl rfl rfl ?_ ?_; rotate_left; (focus ((intro w' hb0 hw'; have x := cell_later f2 hw'; go_simp) <;> with_reducible rfl)); simp only [Act.put, List.setIfInBounds_toArray, List.set_cons_zero, List.set_cons_succ])
        (refine pl_take (d := 34) (v := ?_) rfl rfl rfl ?_ ?_; rotate_left; (focus ((intro w' hb0 hw'; go_simp) <;> with_reducible rfl)); simp only [Act.put, List.setIfInBounds_toArray, List.set_cons_zero, List.set_cons_succ])
        (refine pl_take (d := 35) (v := ?_) rfl rfl rfl ?_ ?_; rotate_left; (focus ((intro w' hb0 hw'; go_simp) <;> with_reducible rfl)); simp only [Act.put, List.setIfInBounds_toArray, List.set_cons_zero, List.set_cons_succ])
        (refine pl_take (d := 36) (v := ?_) rfl rfl rfl ?_ ?_; rotate_left; (focus ((intro w' hb0 hw'; go_simp) <;> with_reducible rfl)); simp only [Act.put, List.setIfInBounds_toArray, List.set_cons_zero, List.set_cons_succ])
        refine pl_tail ?_
        refine tl_do rfl rfl (fun K hK => ?_)
        go_simp
        refine hK _ _ ?_
        clear hK
        have hT2 := hT0.set 5 (by simp [Tal.cells]) (.int .i64 v5)
        have hR2 := hR0.setOther (a := ⟨w.heap.size + 1, 5, none⟩) (by simp) (.int .i64 v5)
        have hB2 := hbW.setCell (p := ⟨w.heap.size + 1, 5, none⟩) (by simp) (.int .i64 v5)
        clear hT0 hR0 hbW f0 f1 f2 cz fz lz
        generalize W0.setCell ⟨w.heap.size + 1, 5, none⟩ (.int .i64 v5) = W1 at *
        have HT2 := Lib.hid hT2; have HR2 := Lib.hid hR2; have HB2 := Lib.hid hB2
        clear hT2 hR2 hB2
        (try simp only [Act.put, List.setIfInBounds_toArray, List.set_cons_zero, List.set_cons_succ])
        refine tl_end ?_
        have e2 := (HB2.out.cell (p := ⟨b1, p1 + k * 3 + 2, none⟩) hb1).trans E2.out
        have hbz : b1 < W1.heap.size := Nat.lt_of_lt_of_le hb1 HB2.out.size
        clear hT hR hB
        go_wp2_with fail
        refine (kind35 W1 p.oa p.n p.c p.b (HOK.out.reads.below' HB2.out)).mono ?_
        rintro r W2 ⟨rfl, rfl⟩
        have hkk := kindOf_le p.b
        obtain ⟨q, hq⟩ : ∃ q, kindOf p.b = q := ⟨_, rfl⟩
        have HQ : Hid (oneT p = kindT q p.n) := by show _ = _; unfold oneT; rw [hq]
        rw [hq] at hkk ⊢
        rw [HQ.out] at HT
        clear hq HQ
        have c0 := HT2.out.at' 0 (by simp [Tal.cells]); have c1 := HT2.out.at' 1 (by simp [Tal.cells]); have c2 := HT2.out.at' 2 (by simp [Tal.cells]); have c3 := HT2.out.at' 3 (by simp [Tal.cells]); have c4 := HT2.out.at' 4 (by simp [Tal.cells])
        have cf := HT2.out.froz; have cl := HT2.out.lt
        simp only [Tal.cells, List.set_cons_succ, List.set_cons_zero, List.getElem_cons_succ, List.getElem_cons_zero] at c0 c1 c2 c3 c4
        rcases (by omega : q = 0 ∨ q = 1 ∨ q = 2 ∨ q = 3 ∨ q = 4) with rfl | rfl | rfl | rfl | rfl
        · go_wp2_with fail
          refine ⟨?_, ?_⟩
          · refine ⟨k + 1, by omega, rfl, Lib.hid ?_, Lib.hid (HR2.out.setOther (a := ⟨w.heap.size + 1, 4, none⟩) (by simp) _), Lib.hid (HB2.out.setCell (p := ⟨w.heap.size + 1, 4, none⟩) (by simp) _)⟩
            rw [HT.out, addT_kind0 t p.n HIN.out, HV5.out]
            exact HT2.out.set 4 (by simp [Tal.cells]) _
          · (simp [intOf]) <;> omega
        · go_wp2_with fail
          refine ⟨?_, ?_⟩
          · refine ⟨k + 1, by omega, rfl, Lib.hid ?_, Lib.hid (HR2.out.setOther (a := ⟨w.heap.size + 1, 0, none⟩) (by simp) _), Lib.hid (HB2.out.setCell (p := ⟨w.heap.size + 1, 0, none⟩) (by simp) _)⟩
            rw [HT.out, addT_kind1 t p.n HIN.out, HV5.out]
            exact HT2.out.set 0 (by simp [Tal.cells]) _
          · (simp [intOf]) <;> omega
        · go_wp2_with fail
          refine ⟨?_, ?_⟩
          · refine ⟨k + 1, by omega, rfl, Lib.hid ?_, Lib.hid (HR2.out.setOther (a := ⟨w.heap.size + 1, 1, none⟩) (by simp) _), Lib.hid (HB2.out.setCell (p := ⟨w.heap.size + 1, 1, none⟩) (by simp) _)⟩
            rw [HT.out, addT_kind2 t p.n HIN.out, HV5.out]
            exact HT2.out.set 1 (by simp [Tal.cells]) _
          · (simp [intOf]) <;> omega
        · go_wp2_with fail
          refine ⟨?_, ?_⟩
          · refine ⟨k + 1, by omega, rfl, Lib.hid ?_, Lib.hid (HR2.out.setOther (a := ⟨w.heap.size + 1, 2, none⟩) (by simp) _), Lib.hid (HB2.out.setCell (p := ⟨w.heap.size + 1, 2, none⟩) (by simp) _)⟩
            rw [HT.out, addT_kind3 t p.n HIN.out, HV5.out]
            exact HT2.out.set 2 (by simp [Tal.cells]) _
          · (simp [intOf]) <;> omega
        · go_wp2_with fail
          refine ⟨?_, ?_⟩
          · refine ⟨k + 1, by omega, rfl, Lib.hid ?_, Lib.hid (HR2.out.setOther (a := ⟨w.heap.size + 1, 3, none⟩) (by simp) _), Lib.hid (HB2.out.setCell (p := ⟨w.heap.size + 1, 3, none⟩) (by simp) _)⟩
            rw [HT.out, addT_kind4 t p.n HIN.out, HV5.out]
            exact HT2.out.set 3 (by simp [Tal.cells]) _
          · (simp [intOf]) <;> omega
      case false =>
        rw [Bool.false_or] at HT
        by_cases he : p.frm = name
        · rw [decide_eq_true he, if_pos rfl] at HT
          have heq : (p.frm.toList == name.toList) = true := by rw [strbeq, he]; simp
          clear he
          go_wp2_with fail
          clear e0 heq
          refine wp_region_plan none [10] [] (.take 0 (.take 1 (.take 2 (.take 3 (.take 4 (.take 5 (.take 6 (.take 7 (.take 8 (.take 9 (.tail [10]))))))))))) (by kernel_rfl) (by kernel_rfl) (fun _ _ dd _ _ h => by cases dd <;> exact h) ?_
          intro W0 hW0
          have hT0 : Blk W0 (w.heap.size + 1) t.cells := by rw [hW0]; exact hT.out.drew
          have hR0 : Blk W0 w.heap.size t0.cells := by rw [hW0]; exact hR.out.drew
          have hbW : Below w.heap.size w W0 := by rw [hW0]; exact hB.out.drew
          have f0 := (hbW.cell (p := ⟨b1, p1 + k * 3, none⟩) hb1).trans E0.out
          have f1 := (hbW.cell (p := ⟨b1, p1 + k * 3 + 1, none⟩) hb1).trans E1.out
          have f2 := (hbW.cell (p := ⟨b1, p1 + k * 3 + 2, none⟩) hb1).trans E2.out
          have fz := hT0.froz
          have lz := hT0.lt
          have cz := hT0.at' 5 (by simp [Tal.cells])
          simp only [Tal.cells, List.getElem_cons_succ, List.getElem_cons_zero] at cz
          clear hW0
          (refine pl_take (d := 27) (v := ?_) rfl rfl rfl ?_ ?_; rotate_left; (focus ((intro w' hb0 hw'; go_simp) <;> with_reducible rfl)); simp only [Act.put, List.setIfInBounds_toArray, List.set_cons_zero, List.set_cons_succ])
          (refine pl_take (d := 28) (v := ?_) rfl rfl rfl ?_ ?_; rotate_left; (focus ((intro w' hb0 hw'; have hc := hT0.later hw'; have c5 := hc.at' 5 (by simp [Tal.cells]); simp only [Tal.cells, List.getElem_cons_succ, List.getElem_cons_zero] at c5; go_simp) <;> with_reducible rfl)); simp only [Act.put, List.setIfInBounds_toArray, List.set_cons_zero, List.set_cons_succ])
          (refine pl_take (d := 29) (v := ?_) rfl rfl rfl ?_ ?_; rotate_left; (focus ((intro w' hb0 hw'; go_simp) <;> with_reducible rfl)); simp only [Act.put, List.setIfInBounds_toArray, List.set_cons_zero, List.set_cons_succ])
          (refine pl_take (d := 30) (v := ?_) rfl rfl rfl ?_ ?_; rotate_left; (focus ((intro w' hb0 hw'; go_simp) <;> with_reducible rfl)); simp only [Act.put, List.setIfInBounds_toArray, List.set_cons_zero, List.set_cons_succ])
          (refine pl_take (d := 31) (v := ?_) rfl rfl rfl ?_ ?_; rotate_left; (focus ((intro w' hb0 hw'; go_simp) <;> with_reducible rfl)); simp only [Act.put, List.setIfInBounds_toArray, List.set_cons_zero, List.set_cons_succ])
          (refine pl_take (d := 32) (v := ?_) rfl rfl rfl ?_ ?_; rotate_left; (focus ((intro w' hb0 hw'; go_simp) <;> with_reducible rfl)); simp only [Act.put, List.setIfInBounds_toArray, List.set_cons_zero, List.set_cons_succ])
          (refine pl_take (d := 33) (v := ?_) rfl rfl rfl ?_ ?_; rotate_left; (focus ((intro w' hb0 hw'; have x := cell_later f2 hw'; go_simp) <;> with_reducible rfl)); simp only [Act.put, List.setIfInBounds_toArray, List.set_cons_zero, List.set_cons_succ])
          (refine pl_take (d := 34) (v := ?_) rfl rfl rfl ?_ ?_; rotate_left; (focus ((intro w' hb0 hw'; go_simp) <;> with_reducible rfl)); simp only [Act.put, List.setIfInBounds_toArray, List.set_cons_zero, List.set_cons_succ])
          (refine pl_take (d := 35) (v := ?_) rfl rfl rfl ?_ ?_; rotate_left; (focus ((intro w' hb0 hw'; go_simp) <;> with_reducible rfl)); simp only [Act.put, List.setIfInBounds_toArray, List.set_cons_zero, List.set_cons_succ])
          (refine pl_take (d := 36) (v := ?_) rfl rfl rfl ?_ ?_; rotate_left; (focus ((intro w' hb0 hw'; go_simp) <;> with_reducible rfl)); simp only [Act.put, List.setIfInBounds_toArray, List.set_cons_zero, List.set_cons_succ])
          refine pl_tail ?_
          refine tl_do rfl rfl (fun K hK => ?_)
          go_simp
          refine hK _ _ ?_
          clear hK
          have hT2 := hT0.set 5 (by simp [Tal.cells]) (.int .i64 v5)
          have hR2 := hR0.setOther (a := ⟨w.heap.size + 1, 5, none⟩) (by simp) (.int .i64 v5)
          have hB2 := hbW.setCell (p := ⟨w.heap.size + 1, 5, none⟩) (by simp) (.int .i64 v5)
          clear hT0 hR0 hbW f0 f1 f2 cz fz lz
          generalize W0.setCell ⟨w.heap.size + 1, 5, none⟩ (.int .i64 v5) = W1 at *
          have HT2 := Lib.hid hT2; have HR2 := Lib.hid hR2; have HB2 := Lib.hid hB2
          clear hT2 hR2 hB2
          (try simp only [Act.put, List.setIfInBounds_toArray, List.set_cons_zero, List.set_cons_succ])
          refine tl_end ?_
          have e2 := (HB2.out.cell (p := ⟨b1, p1 + k * 3 + 2, none⟩) hb1).trans E2.out
          have hbz : b1 < W1.heap.size := Nat.lt_of_lt_of_le hb1 HB2.out.size
          clear hT hR hB
          go_wp2_with fail
          refine (kind35 W1 p.oa p.n p.c p.b (HOK.out.reads.below' HB2.out)).mono ?_
          rintro r W2 ⟨rfl, rfl⟩
          have hkk := kindOf_le p.b
          obtain ⟨q, hq⟩ : ∃ q, kindOf p.b = q := ⟨_, rfl⟩
          have HQ : Hid (oneT p = kindT q p.n) := by show _ = _; unfold oneT; rw [hq]
          rw [hq] at hkk ⊢
          rw [HQ.out] at HT
          clear hq HQ
          have c0 := HT2.out.at' 0 (by simp [Tal.cells]); have c1 := HT2.out.at' 1 (by simp [Tal.cells]); have c2 := HT2.out.at' 2 (by simp [Tal.cells]); have c3 := HT2.out.at' 3 (by simp [Tal.cells]); have c4 := HT2.out.at' 4 (by simp [Tal.cells])
          have cf := HT2.out.froz; have cl := HT2.out.lt
          simp only [Tal.cells, List.set_cons_succ, List.set_cons_zero, List.getElem_cons_succ, List.getElem_cons_zero] at c0 c1 c2 c3 c4
          rcases (by omega : q = 0 ∨ q = 1 ∨ q = 2 ∨ q = 3 ∨ q = 4) with rfl | rfl | rfl | rfl | rfl
          · go_wp2_with fail
            refine ⟨?_, ?_⟩
            · refine ⟨k + 1, by omega, rfl, Lib.hid ?_, Lib.hid (HR2.out.setOther (a := ⟨w.heap.size + 1, 4, none⟩) (by simp) _), Lib.hid (HB2.out.setCell (p := ⟨w.heap.size + 1, 4, none⟩) (by simp) _)⟩
              rw [HT.out, addT_kind0 t p.n HIN.out, HV5.out]
              exact HT2.out.set 4 (by simp [Tal.cells]) _
            · (simp [intOf]) <;> omega
          · go_wp2_with fail
            refine ⟨?_, ?_⟩
            · refine ⟨k + 1, by omega, rfl, Lib.hid ?_, Lib.hid (HR2.out.setOther (a := ⟨w.heap.size + 1, 0, none⟩) (by simp) _), Lib.hid (HB2.out.setCell (p := ⟨w.heap.size + 1, 0, none⟩) (by simp) _)⟩
              rw [HT.out, addT_kind1 t p.n HIN.out, HV5.out]
              exact HT2.out.set 0 (by simp [Tal.cells]) _
            · (simp [intOf]) <;> omega
          · go_wp2_with fail
            refine ⟨?_, ?_⟩
            · refine ⟨k + 1, by omega, rfl, Lib.hid ?_, Lib.hid (HR2.out.setOther (a := ⟨w.heap.size + 1, 1, none⟩) (by simp) _), Lib.hid (HB2.out.setCell (p := ⟨w.heap.size + 1, 1, none⟩) (by simp) _)⟩
              rw [HT.out, addT_kind2 t p.n HIN.out, HV5.out]
              exact HT2.out.set 1 (by simp [Tal.cells]) _
            · (simp [intOf]) <;> omega
          · go_wp2_with fail
            refine ⟨?_, ?_⟩
            · refine ⟨k + 1, by omega, rfl, Lib.hid ?_, Lib.hid (HR2.out.setOther (a := ⟨w.heap.size + 1, 2, none⟩) (by simp) _), Lib.hid (HB2.out.setCell (p := ⟨w.heap.size + 1, 2, none⟩) (by simp) _)⟩
              rw [HT.out, addT_kind3 t p.n HIN.out, HV5.out]
              exact HT2.out.set 2 (by simp [Tal.cells]) _
            · (simp [intOf]) <;> omega
          · go_wp2_with fail
            refine ⟨?_, ?_⟩
            · refine ⟨k + 1, by omega, rfl, Lib.hid ?_, Lib.hid (HR2.out.setOther (a := ⟨w.heap.size + 1, 3, none⟩) (by simp) _), Lib.hid (HB2.out.setCell (p := ⟨w.heap.size + 1, 3, none⟩) (by simp) _)⟩
              rw [HT.out, addT_kind4 t p.n HIN.out, HV5.out]
              exact HT2.out.set 3 (by simp [Tal.cells]) _
            · (simp [intOf]) <;> omega
        · rw [decide_eq_false he, if_neg (by decide)] at HT
          have hne := strne he
          clear he
          go_wp2_with fail
          refine ⟨?_, ?_⟩
          · exact ⟨k + 1, by omega, rfl, Lib.hid (by rw [HT.out]; exact hT.out), hR, hB⟩
          · (simp [intOf]) <;> omega
    · obtain rfl : k = l.length := by omega
      rw [List.take_length] at hT
      obtain ⟨t, ht⟩ : ∃ t, tallyOf (pick all name l) = t := ⟨_, rfl⟩
      rw [ht] at hT
      have HTT := Lib.hid ht
      clear ht
      have c0 := hT.out.at' 0 (by simp [Tal.cells]); have c1 := hT.out.at' 1 (by simp [Tal.cells]); have c2 := hT.out.at' 2 (by simp [Tal.cells]); have c3 := hT.out.at' 3 (by simp [Tal.cells]); have c4 := hT.out.at' 4 (by simp [Tal.cells]); have c5 := hT.out.at' 5 (by simp [Tal.cells])
      simp only [Tal.cells, List.getElem_cons_succ, List.getElem_cons_zero] at c0 c1 c2 c3 c4 c5
      go_wp2_with (refine stop_store (ty := 32) rfl ?_)
      refine ⟨wpList_store_blk rfl rfl hR.out (by rfl) (vs := t.cells) (by rfl) row32 rfl (by simp [Tal.cells, Value.oneCell']) ?_⟩
      intro W5 hR5 hg5
      have hb5 := Below.grownB hB.out hg5 (by omega) hB.out.size
      have HR5 := Lib.hid hR5; have HB5 := Lib.hid hb5; clear hR5 hb5 hg5 hR hB c0 c1 c2 c3 c4 c5
      go_wp2
      exact ret_blk (b := w.heap.size) rfl (by rfl) HR5.out row32 rfl ⟨by rw [HTT.out], HB5.out⟩

theorem refOf12 (l : List Pk) (w : World) (oa : Option Addr) (n c : Nat) (h : Pks w oa n c l) (hl : l.length ≤ 900) :
    Calls Try.prog 12 #[.slice oa n c] w fun e w' => e = .returned (.agg (tallyOf l).cells.toArray) ∧ Below w.heap.size w w' := by
  have hal : Below w.heap.size w (w.alloc (.cells t0.cells.toArray 32)) := (Below.refl _ _).alloc (Nat.le_refl _) _
  have HX : Hid (Blk (w.alloc (.cells t0.cells.toArray 32)) w.heap.size t0.cells) := Blk.new' rfl
  have H := Lib.hid (h.below hal); have HL := Lib.hid hl; have HB := Lib.hid hal; clear h hl hal
  have HP : Hid (pick true ⟨#[]⟩ l = l) := by show _ = _; unfold pick; simp
  go_enter Try.func12, Try.ntmps12
  go_wp2_with fail
  refine (some28 l true ⟨#[]⟩ _ oa n c H.out HL.out).mono ?_
  rintro r w1 ⟨rfl, hbk⟩
  rw [HP.out]
  replace HX := Lib.hid (HX.out.later hbk); replace HB := Lib.hid (below_step HB.out hbk)
  clear hbk H
  obtain ⟨t, ht⟩ : ∃ t, tallyOf l = t := ⟨_, rfl⟩
  rw [ht]
  have HTT := Lib.hid ht
  clear ht
  go_wp2_with (refine stop_store (ty := 32) rfl ?_)
  refine ⟨wpList_store_blk rfl rfl HX.out (by rfl) (vs := t.cells) (by rfl) row32 rfl (by simp [Tal.cells, Value.oneCell']) ?_⟩
  intro W5 hR5 hg5
  have hb5 := Below.grownB HB.out hg5 (by omega) HB.out.size
  have HR5 := Lib.hid hR5; have HB5 := Lib.hid hb5; clear hR5 hb5 hg5 HX HB
  go_wp2
  exact ret_blk (b := w.heap.size) rfl (by rfl) HR5.out row32 rfl ⟨by rw [HTT.out], HB5.out⟩

def fromL (l : List Pk) (name : ByteArray) : List Pk := l.filter fun p => decide (p.frm = name)
theorem refFrom14 (l : List Pk) (name : ByteArray) (w : World) (oa : Option Addr) (n c : Nat) (h : Pks w oa n c l) (hl : l.length ≤ 900) :
    Calls Try.prog 14 #[.slice oa n c, .string name] w fun e w' => e = .returned (.agg (tallyOf (fromL l name)).cells.toArray) ∧ Below w.heap.size w w' := by
  have hal : Below w.heap.size w (w.alloc (.cells t0.cells.toArray 32)) := (Below.refl _ _).alloc (Nat.le_refl _) _
  have HX : Hid (Blk (w.alloc (.cells t0.cells.toArray 32)) w.heap.size t0.cells) := Blk.new' rfl
  have H := Lib.hid (h.below hal); have HL := Lib.hid hl; have HB := Lib.hid hal; clear h hl hal
  have HP : Hid (pick false name l = fromL l name) := by show _ = _; unfold pick fromL; simp
  go_enter Try.func14, Try.ntmps14
  go_wp2_with fail
  refine (some28 l false name _ oa n c H.out HL.out).mono ?_
  rintro r w1 ⟨rfl, hbk⟩
  rw [HP.out]
  replace HX := Lib.hid (HX.out.later hbk); replace HB := Lib.hid (below_step HB.out hbk)
  clear hbk H
  obtain ⟨t, ht⟩ : ∃ t, tallyOf (fromL l name) = t := ⟨_, rfl⟩
  rw [ht]
  have HTT := Lib.hid ht
  clear ht
  go_wp2_with (refine stop_store (ty := 32) rfl ?_)
  refine ⟨wpList_store_blk rfl rfl HX.out (by rfl) (vs := t.cells) (by rfl) row32 rfl (by simp [Tal.cells, Value.oneCell']) ?_⟩
  intro W5 hR5 hg5
  have hb5 := Below.grownB HB.out hg5 (by omega) HB.out.size
  have HR5 := Lib.hid hR5; have HB5 := Lib.hid hb5; clear hR5 hb5 hg5 HX HB
  go_wp2
  exact ret_blk (b := w.heap.size) rfl (by rfl) HR5.out row32 rfl ⟨by rw [HTT.out], HB5.out⟩
end Go.Proofs.Ythobmcpilfalgaa
