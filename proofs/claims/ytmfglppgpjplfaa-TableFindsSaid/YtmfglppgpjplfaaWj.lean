/-
  The law's walk: a table that is added to keeps who waits or is busy.
-/
import Derived.Test.YtmfglppgpjplfaaWi
import Derived.BigFrame
namespace Go.Proofs.Ytmfglppgpjplfaa
open Go.RowKit Go.Proofs.Ytmfglppgpjplfaa.Plan Go.Proofs.Ytmfglppgpjplfaa.Eager
set_option maxHeartbeats 4000000
set_option maxRecDepth 20000
set_option linter.unusedVariables false
set_option linter.unusedSimpArgs false

theorem wpList_load_blk_w {P : Program} {w : World} {ops : Array Oper} {rest : List Oper} {op : Oper} {a : Act} {Q : Exit → Act → World → Prop} (hw : Region.wanted op (yielded ops a.tmps) = true) {ty : TypeId} {x : Operand} (ho : op.op = .load ty x) {b : Nat} {cs : List Value} (hB : Blk w b cs) (hx : a.eval x = .pointer (some ⟨b, 0, none⟩)) (hT : RowTy P ty cs.length)
    (h : wpList P ops Q rest (a.put op.dst (.agg cs.toArray)) w) : wpList P ops Q (op :: rest) a w :=
  Go.BigFrame.wpList_want hw fun _ hK => wp_load_blk ho hB hx hT (hK _ _ h)

/-- what the law's loop is to keep -/
structure Keep (l K : List Ses) (busy : List Nat) (p : Nat) (J : Nat → Nat → Prop) : Prop where
  start : J 0 0
  hit : ∀ j a (hj : j < l.length) (ha : a < p) (hk : a < K.length), J j a → K[a] = l[j] → J (j + 1) (a + 1)
  miss : ∀ j a (hj : j < l.length), J j a → (a < p → ∀ hk : a < K.length, K[a] ≠ l[j]) → mayD busy l[j] = true ∧ J (j + 1) a
  stop : ∀ a, J l.length a → a ≤ p → a = p
theorem keep_append (l : List Ses) (s : Ses) (busy : List Nat) : Keep l (l ++ [s]) busy l.length (fun j a => a = j) := by
  refine ⟨rfl, fun j a hj ha hk e h => by omega, fun j a hj e h => ?_, fun a e h => e⟩
  subst e
  exact absurd (List.getElem_append_left hj) (h hj (by simp; omega))
theorem keep_erase (l : List Ses) (s : Ses) (busy : List Nat) (i : Nat) (hi : i < l.length) (hm : mayD busy l[i] = true) : Keep l (l.eraseIdx i ++ [s]) busy (l.length - 1) (Met l (l.eraseIdx i ++ [s]) i) :=
  ⟨Met.start _ _ _, fun j a hj ha hk h e => h.hit hi hj ha ⟨hk, e⟩, fun j a hj h hne => h.miss hi hj hm hne, fun a h ha => h.stop hi ha⟩

def AddCase (l : List Ses) (busy : List Nat) (s : Ses) : Prop :=
  (∃ e : Int, addD l busy s = (l, e) ∧ e ≠ 0) ∨ ∃ (K : List Ses) (p : Nat) (J : Nat → Nat → Prop), addD l busy s = (K, 0) ∧ K.length = p + 1 ∧ K[p]? = some s ∧ p + 1 ≤ max l.length 24 ∧ l.length ≤ p + 1 ∧ Keep l K busy p J ∧ (∀ x ∈ K, x ∈ l ∨ x = s)
theorem add_case (l : List Ses) (busy : List Nat) (s : Ses) : AddCase l busy s := by
  unfold AddCase
  by_cases h1 : againD l s = true
  · exact .inl ⟨26, by unfold addD; rw [if_pos h1], by decide⟩
  · by_cases h2 : 24 ≤ l.length
    · cases hi : idleD l busy with
      | none => exact .inl ⟨27, by unfold addD; rw [if_neg h1, if_pos h2, hi], by decide⟩
      | some i =>
        have hil := (idleTo_lt l busy l.length i hi).2
        have hm := idleTo_may l busy l.length i hil hi
        have hl : (l.eraseIdx i).length = l.length - 1 := by simp [List.length_eraseIdx, hil]
        refine .inr ⟨l.eraseIdx i ++ [s], l.length - 1, Met l (l.eraseIdx i ++ [s]) i, by unfold addD; rw [if_neg h1, if_pos h2, hi], by simp [hl], ?_, by omega, by omega, keep_erase l s busy i hil hm, ?_⟩
        · rw [List.getElem?_append_right (by omega), hl]; simp
        · intro x hx
          rcases List.mem_append.1 hx with hx | hx
          · exact .inl (List.mem_of_mem_eraseIdx hx)
          · exact .inr (by simpa using hx)
    · refine .inr ⟨l ++ [s], l.length, fun j a => a = j, by unfold addD; rw [if_neg h1, if_neg h2], by simp, by simp, by omega, by omega, keep_append l s busy, ?_⟩
      intro x hx
      rcases List.mem_append.1 hx with hx | hx
      · exact .inl hx
      · exact .inr (by simpa using hx)

theorem tableKeeps4 (l : List Ses) (busy : List Nat) (s : Ses) (w : World) (oa : Option Addr) (n c : Nat) (ob : Option Addr) (nb cb : Nat) (h : RSes w oa n c l) (h' : RU w ob nb cb busy) (hwf : ∀ x ∈ l, x.Wf) (hsw : s.Wf) :
    Calls Try.prog 4 #[.slice oa n c, .slice ob nb cb, .agg s.cells.toArray] w fun r w' => r = .returned (.bool true) ∧ Below w.heap.size w w' := by
  obtain rfl : n = l.length := h.rows.len
  obtain rfl : nb = busy.length := h'.rows.len
  have hal : Below w.heap.size w (w.alloc (.cells s.cells.toArray 30)) := (Below.refl _ _).alloc (Nat.le_refl _) _
  have HX : Hid (Blk (w.alloc (.cells s.cells.toArray 30)) w.heap.size s.cells) := Blk.new' rfl
  have H := Lib.hid (h.below hal); have HU := Lib.hid (h'.below hal); have HB := Lib.hid hal; have HWF := Lib.hid hwf; have HSW := Lib.hid hsw
  clear h h' hal hwf hsw
  go_enter Try.func4, Try.ntmps4
  go_wp2_with fail
  refine (works9 _).mono ?_
  rintro r w1 ⟨rfl, hb⟩
  replace HX := Lib.hid (HX.out.later hb); replace H := Lib.hid (H.out.below hb); replace HU := Lib.hid (HU.out.below hb); replace HB := Lib.hid (below_step HB.out hb)
  clear hb
  go_wp2_with fail
  refine (great7 l w1 oa _ c H.out).mono ?_
  rintro r w2 ⟨⟨b, rfl, hbl⟩, hb⟩
  replace HX := Lib.hid (HX.out.later hb); replace H := Lib.hid (H.out.below hb); replace HU := Lib.hid (HU.out.below hb); replace HB := Lib.hid (below_step HB.out hb)
  have HBL := Lib.hid hbl
  clear hb hbl
  cases b with
  | true =>
    go_wp2
    refine bodyPost_ret (v := .bool true) (by simp [results, Try.results4, go_sem]) rfl ⟨rfl, HB.out⟩
  | false =>
  have hl : l.length ≤ 60 := HBL.out rfl
  have HL := Lib.hid hl; clear hl HBL
  go_wp2_with (refine stop_load (ty := 30) rfl ?_)
  refine ⟨wpList_load_blk_w (by rfl) rfl HX.out (by rfl) row30 ?_⟩
  go_wp2_with fail
  refine (greatS8 s w2).mono ?_
  rintro r w3 ⟨⟨b, rfl⟩, hb⟩
  replace HX := Lib.hid (HX.out.later hb); replace H := Lib.hid (H.out.below hb); replace HU := Lib.hid (HU.out.below hb); replace HB := Lib.hid (below_step HB.out hb)
  clear hb
  cases b with
  | true =>
    go_wp2
    refine bodyPost_ret (v := .bool true) (by simp [results, Try.results4, go_sem]) rfl ⟨rfl, HB.out⟩
  | false =>
  by_cases hbb : (100 : Int) < (busy.length : Int)
  · go_wp2
    refine bodyPost_ret (v := .bool true) (by simp [results, Try.results4, go_sem]) rfl ⟨rfl, HB.out⟩
  go_wp2_with (refine stop_load (ty := 30) rfl ?_)
  clear hbb
  refine ⟨wpList_load_blk rfl rfl HX.out (by rfl) row30 ?_⟩
  go_wp2_with fail
  refine (add10 l busy s w3 oa _ c ob _ cb H.out HU.out (by have := HL.out; omega)).mono ?_
  rintro r w5 ⟨v, rfl, hO, hb⟩
  replace HX := Lib.hid (HX.out.later hb); replace H := Lib.hid (H.out.below hb); replace HU := Lib.hid (HU.out.below hb); replace HB := Lib.hid (below_step HB.out hb)
  clear hb
  rcases add_case l busy s with ⟨e, hadd, he⟩ | ⟨K, p, J, hadd, hKl, hKp, hKm, hlp, hKeep, hKmem⟩
  · rw [hadd] at hO ⊢
    simp only at hO ⊢
    obtain ⟨ok, ck, rfl, hR⟩ := Own.rws hO rfl
    have HR := Lib.hid hR
    clear hO hR hadd
    go_wp2_with fail
    refine (same12 l l w5 ok oa _ _ ck c HR.out H.out HWF.out HWF.out).mono ?_
    rintro r w6 ⟨rfl, hb⟩
    rw [decide_eq_true rfl]
    replace HB := Lib.hid (below_step HB.out hb)
    clear hb he HR
    go_wp2
    refine bodyPost_ret (v := .bool true) (by simp [results, Try.results4, go_sem]) rfl ⟨rfl, HB.out⟩
  rw [hadd] at hO ⊢
  simp only at hO ⊢
  obtain ⟨ok, ck, rfl, hR⟩ := Own.rws hO rfl
  rw [hKl] at hR ⊢
  have HR := Lib.hid hR; have HKL := Lib.hid hKl; have HKEEP := Lib.hid hKeep
  have HKW : Hid (∀ x ∈ K, x.Wf) := fun x hx => by
    rcases hKmem x hx with h | h
    · exact HWF.out x h
    · rw [h]; exact HSW.out
  have hpl : p < K.length := by omega
  obtain ⟨bk, pk, rfl, hLAST⟩ := hR.rows.ses hpl
  have hKp2 : K[p] = s := (List.getElem?_eq_some_iff.1 hKp).2
  rw [hKp2] at hLAST
  have HLAST := Lib.hid hLAST
  have hp60 : p ≤ 60 := by have := HL.out; omega
  have HP60 := Lib.hid hp60
  obtain ⟨mx, hmx⟩ : ∃ m, max l.length 24 = m := ⟨_, rfl⟩
  have HMX := Lib.hid hKm
  have HLP := Lib.hid hlp
  clear hO hR hadd hKl hKeep hKmem hpl hKp hKp2 hLAST hKm hlp
  have rp : IntKind.i64.wrap (((p + 1 : Nat) : Int) - 1) = (p : Int) := by rw [IntKind.wrap_i64]; omega
  have hq1 : (((p + 1 : Nat) : Int) == 0) = false := by rw [beq_eq_false_iff_ne]; omega
  have hq2 : (p : Int) < ((p + 1 : Nat) : Int) := by omega
  have hmx2 : ¬ ((mx : Int) < ((p + 1 : Nat) : Int)) := by have := HMX.out; omega
  clear hp60
  obtain ⟨P1, hP1⟩ : ∃ P1, p + 1 = P1 := ⟨_, rfl⟩
  have HP1 := Lib.hid hP1
  rw [hP1] at rp hq1 hq2 hmx2 HR ⊢
  clear hP1
  go_wp2_with fail
  refine wp_region_plan none [] [] (.take 0 (.take 1 (.take 2 (.take 3 (.take 4 (.take 5 (.take 6 (.take 7 (.take 8 (.take 9 (.take 10 (.take 11 (.take 12 (.take 13 (.take 14 (.take 15 (.take 16 (.take 17 (.take 18 (.take 19 (.take 20 .done))))))))))))))))))))) (by kernel_rfl) (by kernel_rfl) (fun _ _ dd _ _ h => by cases dd <;> exact h) ?_
  intro W0 hW0
  have hX0 : Blk W0 w.heap.size s.cells := by rw [hW0]; exact HX.out.drew
  have f0 := HLAST.out.later (below_drew w5)
  rw [← hW0] at f0
  have hbW5 : Below w5.heap.size w5 W0 := by rw [hW0]; exact below_drew w5
  clear hW0
  (refine pl_take (d := 39) (v := ?_) rfl rfl rfl ?_ ?_; rotate_left; (focus ((intro w' hb0 hw'; go_simp) <;> with_reducible rfl)); simp only [Act.put, List.setIfInBounds_toArray, List.set_cons_zero, List.set_cons_succ])
  (refine pl_take (d := 40) (v := ?_) rfl rfl rfl ?_ ?_; rotate_left; (focus ((intro w' hb0 hw'; go_simp) <;> with_reducible rfl)); simp only [Act.put, List.setIfInBounds_toArray, List.set_cons_zero, List.set_cons_succ])
  (refine pl_take (d := 41) (v := ?_) rfl rfl rfl ?_ ?_; rotate_left; (focus ((intro w' hb0 hw'; go_simp) <;> with_reducible rfl)); simp only [Act.put, List.setIfInBounds_toArray, List.set_cons_zero, List.set_cons_succ])
  (refine pl_take (d := 42) (v := ?_) rfl rfl rfl ?_ ?_; rotate_left; (focus ((intro w' hb0 hw'; go_simp) <;> with_reducible rfl)); simp only [Act.put, List.setIfInBounds_toArray, List.set_cons_zero, List.set_cons_succ])
  (refine pl_take (d := 43) (v := ?_) rfl rfl rfl ?_ ?_; rotate_left; (focus ((intro w' hb0 hw'; go_simp) <;> with_reducible rfl)); simp only [Act.put, List.setIfInBounds_toArray, List.set_cons_zero, List.set_cons_succ])
  (refine pl_take (d := 44) (v := ?_) rfl rfl rfl ?_ ?_; rotate_left; (focus ((intro w' hb0 hw'; go_simp) <;> with_reducible rfl)); simp only [Act.put, List.setIfInBounds_toArray, List.set_cons_zero, List.set_cons_succ])
  (refine pl_take (d := 45) (v := ?_) rfl rfl rfl ?_ ?_; rotate_left; (focus ((intro w' hb0 hw'; go_simp) <;> with_reducible rfl)); simp only [Act.put, List.setIfInBounds_toArray, List.set_cons_zero, List.set_cons_succ])
  (refine pl_take (d := 46) (v := ?_) rfl rfl rfl ?_ ?_; rotate_left; (focus ((intro w' hb0 hw'; go_simp) <;> with_reducible rfl)); simp only [Act.put, List.setIfInBounds_toArray, List.set_cons_zero, List.set_cons_succ])
  (refine pl_take (d := 47) (v := ?_) rfl rfl rfl ?_ ?_; rotate_left; (focus ((intro w' hb0 hw'; go_simp) <;> with_reducible rfl)); simp only [Act.put, List.setIfInBounds_toArray, List.set_cons_zero, List.set_cons_succ])
  refine pl_take (d := 48) (v := .agg s.cells.toArray) rfl rfl rfl ?_ ?_
  · intro w' hb0 hw'
    exact run_load_at rfl (f0.later hw') (by rfl) row30
  simp only [Act.put, List.setIfInBounds_toArray, List.set_cons_zero, List.set_cons_succ]
  refine pl_take (d := 49) (v := .agg s.cells.toArray) rfl rfl rfl ?_ ?_
  · intro w' hb0 hw'
    exact run_load_blk rfl (hX0.later hw') (by rfl) row30
  simp only [Act.put, List.setIfInBounds_toArray, List.set_cons_zero, List.set_cons_succ]
  refine pl_take (d := 50) (v := .bool false) rfl rfl rfl ?_ ?_
  · intro w' hb0 hw'
    have he := neq30 s s HSW.out HSW.out w'
    rw [decide_eq_true rfl, Bool.not_true] at he
    exact run_binOp rfl (by rfl) (by rfl) (guard30 _ _ _ _ _ _) he
  simp only [Act.put, List.setIfInBounds_toArray, List.set_cons_zero, List.set_cons_succ]
  (refine pl_take (d := 51) (v := ?_) rfl rfl rfl ?_ ?_; rotate_left; (focus ((intro w' hb0 hw'; go_simp) <;> with_reducible rfl)); simp only [Act.put, List.setIfInBounds_toArray, List.set_cons_zero, List.set_cons_succ])
  (refine pl_take (d := 52) (v := ?_) rfl rfl rfl ?_ ?_; rotate_left; (focus ((intro w' hb0 hw'; go_simp) <;> with_reducible rfl)); simp only [Act.put, List.setIfInBounds_toArray, List.set_cons_zero, List.set_cons_succ])
  (refine pl_take (d := 53) (v := ?_) rfl rfl rfl ?_ ?_; rotate_left; (focus ((intro w' hb0 hw'; go_simp) <;> with_reducible rfl)); simp only [Act.put, List.setIfInBounds_toArray, List.set_cons_zero, List.set_cons_succ])
  (refine pl_take (d := 54) (v := ?_) rfl rfl rfl ?_ ?_; rotate_left; (focus ((intro w' hb0 hw'; go_simp) <;> with_reducible rfl)); simp only [Act.put, List.setIfInBounds_toArray, List.set_cons_zero, List.set_cons_succ])
  (refine pl_take (d := 55) (v := ?_) rfl rfl rfl ?_ ?_; rotate_left; (focus ((intro w' hb0 hw'; go_simp) <;> with_reducible rfl)); simp only [Act.put, List.setIfInBounds_toArray, List.set_cons_zero, List.set_cons_succ])
  (refine pl_take (d := 56) (v := ?_) rfl rfl rfl ?_ ?_; rotate_left; (focus ((intro w' hb0 hw'; go_simp) <;> with_reducible rfl)); simp only [Act.put, List.setIfInBounds_toArray, List.set_cons_zero, List.set_cons_succ])
  refine pl_take (d := 57) (v := .int .i64 (mx : Nat)) rfl rfl rfl ?_ ?_
  · intro w' hb0 hw'
    go_simp
    split <;> (try simp_all) <;> omega
  simp only [Act.put, List.setIfInBounds_toArray, List.set_cons_zero, List.set_cons_succ]
  refine pl_take (d := 58) (v := .bool false) rfl rfl rfl ?_ ?_
  · intro w' hb0 hw'
    have hh := hmx2
    go_simp
    omega
  simp only [Act.put, List.setIfInBounds_toArray, List.set_cons_zero, List.set_cons_succ]
  refine pl_take (d := 59) (v := .bool false) rfl rfl rfl ?_ ?_
  · intro w' hb0 hw'
    go_simp
  simp only [Act.put, List.setIfInBounds_toArray, List.set_cons_zero, List.set_cons_succ]
  refine pl_end ?_
  have HX0 := Lib.hid hX0; have HB5 := Lib.hid hbW5
  clear hX0 f0 hbW5 hmx HMX
  go_wp2_with fail
  clear HLAST HX0 HX HSW hq1 hq2 hmx2
  go_loopw [9, 11, 62] (fun v9 _ u wr => ∃ (j a : Nat), j ≤ l.length ∧ u = .int .i64 j ∧ v9 = .int .i64 a ∧ Hid (J j a ∧ a ≤ p) ∧ Hid (Below w5.heap.size w5 wr)) (fun _ _ u _ => l.length - (intOf u).toNat)
  case atStart => exact ⟨0, 0, by omega, rfl, rfl, Lib.hid ⟨HKEEP.out.start, Nat.zero_le _⟩, HB5⟩
  case round =>
    obtain ⟨j, a, hj, rfl, rfl, hJ, hB⟩ := hrel
    by_cases hlt : j < l.length
    · have hj1 : (j : Int) < (l.length : Int) := by omega
      have rk : IntKind.i64.wrap ((j : Int) + 1) = ((j + 1 : Nat) : Int) := by
        have h1 := HL.out
        rw [IntKind.wrap_i64]; omega
      have ra : IntKind.i64.wrap ((a : Int) + 1) = ((a + 1 : Nat) : Int) := by
        have h1 := HP60.out; have h2 := hJ.out.2
        rw [IntKind.wrap_i64]; omega
      obtain ⟨b1, p1, rfl, hA⟩ := (H.out.rows.below hB.out).ses hlt
      have HXW := Lib.hid (HWF.out _ (List.getElem_mem hlt))
      have HHIT : Hid (∀ (ha : a < p) (hk : a < K.length), K[a] = l[j] → J (j + 1) (a + 1) ∧ a + 1 ≤ p) := fun ha hk e => ⟨HKEEP.out.hit j a hlt ha hk hJ.out.1 e, by omega⟩
      have HMISS : Hid ((a < p → ∀ hk : a < K.length, K[a] ≠ l[j]) → mayD busy l[j] = true ∧ (J (j + 1) a ∧ a ≤ p)) := fun h => by
        have := HKEEP.out.miss j a hlt hJ.out.1 h
        exact ⟨this.1, this.2, hJ.out.2⟩
      obtain ⟨x, hx⟩ : ∃ x, l[j] = x := ⟨_, rfl⟩
      rw [hx] at hA HXW HHIT HMISS
      clear hx
      obtain ⟨wA, rfl⟩ : ∃ q, q = wr := ⟨_, rfl⟩
      have hal : Below wA.heap.size wA (wA.alloc (.cells ses0.cells.toArray 30)) := (Below.refl _ _).alloc (Nat.le_refl _) _
      have hZ : Blk (wA.alloc (.cells ses0.cells.toArray 30)) wA.heap.size ses0.cells := Blk.new' rfl
      have HAL := Lib.hid hal; have HZ := Lib.hid hZ
      clear hal hZ
      by_cases hap : a < p
      · have hap' : (a : Int) < (p : Int) := by omega
        have hak : a < K.length := by have := HKL.out; omega
        have hak' : (a : Int) < (P1 : Int) := by have := HP1.out; omega
        obtain ⟨bk', pk', e9, hTA⟩ := HR.out.rows.ses hak
        cases e9
        have HTW := Lib.hid (HKW.out _ (List.getElem_mem hak))
        replace HHIT : Hid (K[a] = x → J (j + 1) (a + 1) ∧ a + 1 ≤ p) := fun e => HHIT.out hap hak e
        replace HMISS : Hid (K[a] ≠ x → mayD busy x = true ∧ (J (j + 1) a ∧ a ≤ p)) := fun e => HMISS.out (fun _ _ => e)
        obtain ⟨t, ht⟩ : ∃ t, K[a] = t := ⟨_, rfl⟩
        rw [ht] at hTA HTW HHIT HMISS
        have HTA := Lib.hid hTA
        clear ht hTA hap hak
        by_cases heq : t = x
        · have HEQ := Lib.hid heq
          have HNEXT := Lib.hid (HHIT.out heq)
          clear HHIT HMISS heq
          go_wp2_with (refine stop_load (ty := 30) rfl ?_)
          refine ⟨wpList_load_at rfl rfl hA (by rfl) row30 ?_⟩
          clear hA
          go_wp2_with (refine stop_store (ty := 30) rfl ?_)
          refine ⟨wpList_store_blk rfl rfl HZ.out (by rfl) (vs := x.cells) (by rfl) row30 rfl (ses_one x) ?_⟩
          intro W5 hX5 hg5
          have hbk5 := Below.grownB HAL.out hg5 (Nat.le_refl _) HAL.out.size
          have hX := Lib.hid hX5
          replace hB := Lib.hid (below_step hB.out hbk5)
          clear hX5 hg5 hbk5 HAL HZ
          go_wp2_with fail
          refine wp_region_plan none [] [] (.take 0 (.take 1 (.take 2 (.take 3 (.take 4 (.take 5 (.take 6 (.take 7 (.take 8 (.take 9 (.take 10 (.take 11 (.take 12 .done))))))))))))) (by kernel_rfl) (by kernel_rfl) (fun _ _ dd _ _ h => by cases dd <;> exact h) ?_
          intro W0 hW0
          have hX0 : Blk W0 wA.heap.size x.cells := by rw [hW0]; exact hX.out.drew
          have hbW : Below w5.heap.size w5 W0 := by rw [hW0]; exact hB.out.drew
          have g0 := HTA.out.later hbW
          clear hW0
          (refine pl_take (d := 66) (v := ?_) rfl rfl rfl ?_ ?_; rotate_left; (focus ((intro w' hb0 hw'; go_simp) <;> with_reducible rfl)); simp only [Act.put, List.setIfInBounds_toArray, List.set_cons_zero, List.set_cons_succ])
          (refine pl_take (d := 67) (v := ?_) rfl rfl rfl ?_ ?_; rotate_left; (focus ((intro w' hb0 hw'; go_simp) <;> with_reducible rfl)); simp only [Act.put, List.setIfInBounds_toArray, List.set_cons_zero, List.set_cons_succ])
          (refine pl_take (d := 68) (v := ?_) rfl rfl rfl ?_ ?_; rotate_left; (focus ((intro w' hb0 hw'; go_simp) <;> with_reducible rfl)); simp only [Act.put, List.setIfInBounds_toArray, List.set_cons_zero, List.set_cons_succ])
          (refine pl_take (d := 69) (v := ?_) rfl rfl rfl ?_ ?_; rotate_left; (focus ((intro w' hb0 hw'; go_simp) <;> with_reducible rfl)); simp only [Act.put, List.setIfInBounds_toArray, List.set_cons_zero, List.set_cons_succ])
          (refine pl_take (d := 70) (v := ?_) rfl rfl rfl ?_ ?_; rotate_left; (focus ((intro w' hb0 hw'; go_simp) <;> with_reducible rfl)); simp only [Act.put, List.setIfInBounds_toArray, List.set_cons_zero, List.set_cons_succ])
          (refine pl_take (d := 71) (v := ?_) rfl rfl rfl ?_ ?_; rotate_left; (focus ((intro w' hb0 hw'; go_simp) <;> with_reducible rfl)); simp only [Act.put, List.setIfInBounds_toArray, List.set_cons_zero, List.set_cons_succ])
          (refine pl_take (d := 72) (v := ?_) rfl rfl rfl ?_ ?_; rotate_left; (focus ((intro w' hb0 hw'; go_simp) <;> with_reducible rfl)); simp only [Act.put, List.setIfInBounds_toArray, List.set_cons_zero, List.set_cons_succ])
          (refine pl_take (d := 73) (v := ?_) rfl rfl rfl ?_ ?_; rotate_left; (focus ((intro w' hb0 hw'; go_simp) <;> with_reducible rfl)); simp only [Act.put, List.setIfInBounds_toArray, List.set_cons_zero, List.set_cons_succ])
          (refine pl_take (d := 74) (v := ?_) rfl rfl rfl ?_ ?_; rotate_left; (focus ((intro w' hb0 hw'; go_simp) <;> with_reducible rfl)); simp only [Act.put, List.setIfInBounds_toArray, List.set_cons_zero, List.set_cons_succ])
          refine pl_take (d := 75) (v := .agg t.cells.toArray) rfl rfl rfl ?_ ?_
          · intro w' hb0 hw'
            exact run_load_at rfl (g0.later hw') (by rfl) row30
          simp only [Act.put, List.setIfInBounds_toArray, List.set_cons_zero, List.set_cons_succ]
          refine pl_take (d := 76) (v := .agg x.cells.toArray) rfl rfl rfl ?_ ?_
          · intro w' hb0 hw'
            exact run_load_blk rfl (hX0.later hw') (by rfl) row30
          simp only [Act.put, List.setIfInBounds_toArray, List.set_cons_zero, List.set_cons_succ]
          refine pl_take (d := 77) (v := .bool true) rfl rfl rfl ?_ ?_
          · intro w' hb0 hw'
            have he := eql30 t x HTW.out HXW.out w'
            rw [decide_eq_true HEQ.out] at he
            exact run_binOp rfl (by rfl) (by rfl) (guard30 _ _ _ _ _ _) he
          simp only [Act.put, List.setIfInBounds_toArray, List.set_cons_zero, List.set_cons_succ]
          (refine pl_take (d := 78) (v := ?_) rfl rfl rfl ?_ ?_; rotate_left; (focus ((intro w' hb0 hw'; go_simp) <;> with_reducible rfl)); simp only [Act.put, List.setIfInBounds_toArray, List.set_cons_zero, List.set_cons_succ])
          refine pl_end ?_
          clear hX0 g0
          go_wp2_with fail
          refine ⟨?_, ?_⟩
          · exact ⟨j + 1, a + 1, by omega, rfl, rfl, HNEXT, Lib.hid hbW⟩
          · (simp [intOf]) <;> omega
        · have HNE : Hid (¬ t = x) := heq
          obtain ⟨hm, hnx⟩ := HMISS.out heq
          have HNEXT := Lib.hid hnx
          have hm2 : x.state ≠ 1 ∧ x.id ∉ busy := by unfold mayD at hm; simpa using hm
          have hst : ¬ x.state = 1 := hm2.1
          have HID : Hid (x.id ∉ busy) := hm2.2
          clear HHIT HMISS heq hm hnx hm2
          go_wp2_with (refine stop_load (ty := 30) rfl ?_)
          refine ⟨wpList_load_at rfl rfl hA (by rfl) row30 ?_⟩
          clear hA
          go_wp2_with (refine stop_store (ty := 30) rfl ?_)
          refine ⟨wpList_store_blk rfl rfl HZ.out (by rfl) (vs := x.cells) (by rfl) row30 rfl (ses_one x) ?_⟩
          intro W5 hX5 hg5
          have hbk5 := Below.grownB HAL.out hg5 (Nat.le_refl _) HAL.out.size
          have hX := Lib.hid hX5
          replace hB := Lib.hid (below_step hB.out hbk5)
          clear hX5 hg5 hbk5 HAL HZ
          go_wp2_with fail
          refine wp_region_plan none [] [] (.take 0 (.take 1 (.take 2 (.take 3 (.take 4 (.take 5 (.take 6 (.take 7 (.take 8 (.take 9 (.take 10 (.take 11 (.take 12 .done))))))))))))) (by kernel_rfl) (by kernel_rfl) (fun _ _ dd _ _ h => by cases dd <;> exact h) ?_
          intro W0 hW0
          have hX0 : Blk W0 wA.heap.size x.cells := by rw [hW0]; exact hX.out.drew
          have hbW : Below w5.heap.size w5 W0 := by rw [hW0]; exact hB.out.drew
          have g0 := HTA.out.later hbW
          clear hW0
          (refine pl_take (d := 66) (v := ?_) rfl rfl rfl ?_ ?_; rotate_left; (focus ((intro w' hb0 hw'; go_simp) <;> with_reducible rfl)); simp only [Act.put, List.setIfInBounds_toArray, List.set_cons_zero, List.set_cons_succ])
          (refine pl_take (d := 67) (v := ?_) rfl rfl rfl ?_ ?_; rotate_left; (focus ((intro w' hb0 hw'; go_simp) <;> with_reducible rfl)); simp only [Act.put, List.setIfInBounds_toArray, List.set_cons_zero, List.set_cons_succ])
          (refine pl_take (d := 68) (v := ?_) rfl rfl rfl ?_ ?_; rotate_left; (focus ((intro w' hb0 hw'; go_simp) <;> with_reducible rfl)); simp only [Act.put, List.setIfInBounds_toArray, List.set_cons_zero, List.set_cons_succ])
          (refine pl_take (d := 69) (v := ?_) rfl rfl rfl ?_ ?_; rotate_left; (focus ((intro w' hb0 hw'; go_simp) <;> with_reducible rfl)); simp only [Act.put, List.setIfInBounds_toArray, List.set_cons_zero, List.set_cons_succ])
          (refine pl_take (d := 70) (v := ?_) rfl rfl rfl ?_ ?_; rotate_left; (focus ((intro w' hb0 hw'; go_simp) <;> with_reducible rfl)); simp only [Act.put, List.setIfInBounds_toArray, List.set_cons_zero, List.set_cons_succ])
          (refine pl_take (d := 71) (v := ?_) rfl rfl rfl ?_ ?_; rotate_left; (focus ((intro w' hb0 hw'; go_simp) <;> with_reducible rfl)); simp only [Act.put, List.setIfInBounds_toArray, List.set_cons_zero, List.set_cons_succ])
          (refine pl_take (d := 72) (v := ?_) rfl rfl rfl ?_ ?_; rotate_left; (focus ((intro w' hb0 hw'; go_simp) <;> with_reducible rfl)); simp only [Act.put, List.setIfInBounds_toArray, List.set_cons_zero, List.set_cons_succ])
          (refine pl_take (d := 73) (v := ?_) rfl rfl rfl ?_ ?_; rotate_left; (focus ((intro w' hb0 hw'; go_simp) <;> with_reducible rfl)); simp only [Act.put, List.setIfInBounds_toArray, List.set_cons_zero, List.set_cons_succ])
          (refine pl_take (d := 74) (v := ?_) rfl rfl rfl ?_ ?_; rotate_left; (focus ((intro w' hb0 hw'; go_simp) <;> with_reducible rfl)); simp only [Act.put, List.setIfInBounds_toArray, List.set_cons_zero, List.set_cons_succ])
          refine pl_take (d := 75) (v := .agg t.cells.toArray) rfl rfl rfl ?_ ?_
          · intro w' hb0 hw'
            exact run_load_at rfl (g0.later hw') (by rfl) row30
          simp only [Act.put, List.setIfInBounds_toArray, List.set_cons_zero, List.set_cons_succ]
          refine pl_take (d := 76) (v := .agg x.cells.toArray) rfl rfl rfl ?_ ?_
          · intro w' hb0 hw'
            exact run_load_blk rfl (hX0.later hw') (by rfl) row30
          simp only [Act.put, List.setIfInBounds_toArray, List.set_cons_zero, List.set_cons_succ]
          refine pl_take (d := 77) (v := .bool false) rfl rfl rfl ?_ ?_
          · intro w' hb0 hw'
            have he := eql30 t x HTW.out HXW.out w'
            rw [decide_eq_false HNE.out] at he
            exact run_binOp rfl (by rfl) (by rfl) (guard30 _ _ _ _ _ _) he
          simp only [Act.put, List.setIfInBounds_toArray, List.set_cons_zero, List.set_cons_succ]
          (refine pl_take (d := 78) (v := ?_) rfl rfl rfl ?_ ?_; rotate_left; (focus ((intro w' hb0 hw'; go_simp) <;> with_reducible rfl)); simp only [Act.put, List.setIfInBounds_toArray, List.set_cons_zero, List.set_cons_succ])
          refine pl_end ?_
          clear g0
          have x9 : W0.cell? ⟨wA.heap.size, 9, none⟩ = some (.int .i64 x.state) := ses_at hX0 9 (by omega)
          have hxl := hX0.lt
          have HX0 := Lib.hid hX0; have HBW := Lib.hid hbW
          clear hX0 hbW
          obtain ⟨wC, rfl⟩ : ∃ q, q = W0 := ⟨_, rfl⟩
          go_wp2_with fail
          clear x9
          go_loopw [13, 86] (fun _ u wr => ∃ q : Nat, q ≤ busy.length ∧ u = .int .i64 q ∧ Hid (Below wC.heap.size wC wr)) (fun _ u _ => busy.length - (intOf u).toNat)
          case atStart => exact ⟨0, by omega, rfl, Lib.hid (Below.refl _ _)⟩
          case round =>
            obtain ⟨q, hq, rfl, hb9⟩ := hrel
            by_cases hql : q < busy.length
            · have hq1 : (q : Int) < (busy.length : Int) := by omega
              have rq : IntKind.i64.wrap ((q : Int) + 1) = ((q + 1 : Nat) : Int) := by
                have h1 := HU.out.le; have h2 := HU.out.cap
                simp only [maxLen] at h2
                rw [IntKind.wrap_i64]; omega
              obtain ⟨b2, p2, rfl, hb2, e0⟩ := (HU.out.rows.below (below_step HBW.out hb9.out)).u64 hql
              have hX9 := HX0.out.later hb9.out
              have x0 : wr.cell? ⟨wA.heap.size, 0, none⟩ = some (.int .u64 x.id) := ses_at hX9 0 (by omega)
              have hxl9 := hX9.lt
              have hne9 : ¬ (busy[q] : Int) = (x.id : Int) := by
                intro e
                have : x.id ∈ busy := by
                  have e' : busy[q] = x.id := by omega
                  rw [← e']; exact List.getElem_mem hql
                exact HID.out this
              obtain ⟨z, hz⟩ : ∃ z, busy[q] = z := ⟨_, rfl⟩
              rw [hz] at e0 hne9
              clear hX9 hz
              go_wp2_with fail
              refine ⟨?_, ?_⟩
              · exact ⟨q + 1, by omega, rfl, hb9⟩
              · (simp [intOf]) <;> omega
            · obtain rfl : q = busy.length := by omega
              have HBZ := Lib.hid (below_step HBW.out hb9.out)
              clear hb9
              go_wp2_with fail
              refine ⟨?_, ?_⟩
              · exact ⟨j + 1, a, by omega, rfl, rfl, HNEXT, HBZ⟩
              · (simp [intOf]) <;> omega
      · have hap' : ¬ (a : Int) < (p : Int) := by omega
        obtain ⟨hm, hnx⟩ := HMISS.out (fun h => absurd h hap)
        have HNEXT := Lib.hid hnx
        have hm2 : x.state ≠ 1 ∧ x.id ∉ busy := by unfold mayD at hm; simpa using hm
        have hst : ¬ x.state = 1 := hm2.1
        have HID : Hid (x.id ∉ busy) := hm2.2
        clear HHIT HMISS hm hnx hm2 hap
        go_wp2_with (refine stop_load (ty := 30) rfl ?_)
        refine ⟨wpList_load_at rfl rfl hA (by rfl) row30 ?_⟩
        clear hA
        go_wp2_with (refine stop_store (ty := 30) rfl ?_)
        refine ⟨wpList_store_blk rfl rfl HZ.out (by rfl) (vs := x.cells) (by rfl) row30 rfl (ses_one x) ?_⟩
        intro W5 hX5 hg5
        have hbk5 := Below.grownB HAL.out hg5 (Nat.le_refl _) HAL.out.size
        have hX := Lib.hid hX5
        replace hB := Lib.hid (below_step hB.out hbk5)
        clear hX5 hg5 hbk5 HAL HZ
        go_wp2_with fail
        refine wp_region_plan none [] [] (.take 0 (.take 1 (.take 2 (.take 3 (.take 4 (.take 5 (.take 6 (.take 7 (.take 8 (.take 9 (.take 10 (.take 11 (.take 12 .done))))))))))))) (by kernel_rfl) (by kernel_rfl) (fun _ _ dd _ _ h => by cases dd <;> exact h) ?_
        intro W0 hW0
        have hX0 : Blk W0 wA.heap.size x.cells := by rw [hW0]; exact hX.out.drew
        have hbW : Below w5.heap.size w5 W0 := by rw [hW0]; exact hB.out.drew
        clear hW0
        (refine pl_take (d := 66) (v := ?_) rfl rfl rfl ?_ ?_; rotate_left; (focus ((intro w' hb0 hw'; go_simp) <;> with_reducible rfl)); simp only [Act.put, List.setIfInBounds_toArray, List.set_cons_zero, List.set_cons_succ])
        (refine pl_take (d := 67) (v := ?_) rfl rfl rfl ?_ ?_; rotate_left; (focus ((intro w' hb0 hw'; go_simp) <;> with_reducible rfl)); simp only [Act.put, List.setIfInBounds_toArray, List.set_cons_zero, List.set_cons_succ])
        (refine pl_take (d := 68) (v := ?_) rfl rfl rfl ?_ ?_; rotate_left; (focus ((intro w' hb0 hw'; go_simp) <;> with_reducible rfl)); simp only [Act.put, List.setIfInBounds_toArray, List.set_cons_zero, List.set_cons_succ])
        (refine pl_take (d := 69) (v := ?_) rfl rfl rfl ?_ ?_; rotate_left; (focus ((intro w' hb0 hw'; go_simp) <;> with_reducible rfl)); simp only [Act.put, List.setIfInBounds_toArray, List.set_cons_zero, List.set_cons_succ])
        refine pl_take (d := 70) (v := .bool false) rfl rfl rfl ?_ ?_
        · intro w' hb0 hw'
          go_simp
          (try omega)
        simp only [Act.put, List.setIfInBounds_toArray, List.set_cons_zero, List.set_cons_succ]
        (refine pl_take (d := 71) (v := ?_) rfl rfl rfl ?_ ?_; rotate_left; (focus ((intro w' hb0 hw'; go_simp) <;> with_reducible rfl)); simp only [Act.put, List.setIfInBounds_toArray, List.set_cons_zero, List.set_cons_succ])
        (refine pl_skip (d := 72) rfl rfl rfl ?_; simp only [Act.put, List.setIfInBounds_toArray, List.set_cons_zero, List.set_cons_succ])
        (refine pl_skip (d := 73) rfl rfl rfl ?_; simp only [Act.put, List.setIfInBounds_toArray, List.set_cons_zero, List.set_cons_succ])
        (refine pl_skip (d := 74) rfl rfl rfl ?_; simp only [Act.put, List.setIfInBounds_toArray, List.set_cons_zero, List.set_cons_succ])
        (refine pl_skip (d := 75) rfl rfl rfl ?_; simp only [Act.put, List.setIfInBounds_toArray, List.set_cons_zero, List.set_cons_succ])
        (refine pl_skip (d := 76) rfl rfl rfl ?_; simp only [Act.put, List.setIfInBounds_toArray, List.set_cons_zero, List.set_cons_succ])
        (refine pl_skip (d := 77) rfl rfl rfl ?_; simp only [Act.put, List.setIfInBounds_toArray, List.set_cons_zero, List.set_cons_succ])
        (refine pl_take (d := 78) (v := ?_) rfl rfl rfl ?_ ?_; rotate_left; (focus ((intro w' hb0 hw'; go_simp) <;> with_reducible rfl)); simp only [Act.put, List.setIfInBounds_toArray, List.set_cons_zero, List.set_cons_succ])
        refine pl_end ?_
        have x9 : W0.cell? ⟨wA.heap.size, 9, none⟩ = some (.int .i64 x.state) := ses_at hX0 9 (by omega)
        have hxl := hX0.lt
        have HX0 := Lib.hid hX0; have HBW := Lib.hid hbW
        clear hX0 hbW
        obtain ⟨wC, rfl⟩ : ∃ q, q = W0 := ⟨_, rfl⟩
        go_wp2_with fail
        clear x9
        go_loopw [13, 86] (fun _ u wr => ∃ q : Nat, q ≤ busy.length ∧ u = .int .i64 q ∧ Hid (Below wC.heap.size wC wr)) (fun _ u _ => busy.length - (intOf u).toNat)
        case atStart => exact ⟨0, by omega, rfl, Lib.hid (Below.refl _ _)⟩
        case round =>
          obtain ⟨q, hq, rfl, hb9⟩ := hrel
          by_cases hql : q < busy.length
          · have hq1 : (q : Int) < (busy.length : Int) := by omega
            have rq : IntKind.i64.wrap ((q : Int) + 1) = ((q + 1 : Nat) : Int) := by
              have h1 := HU.out.le; have h2 := HU.out.cap
              simp only [maxLen] at h2
              rw [IntKind.wrap_i64]; omega
            obtain ⟨b2, p2, rfl, hb2, e0⟩ := (HU.out.rows.below (below_step HBW.out hb9.out)).u64 hql
            have hX9 := HX0.out.later hb9.out
            have x0 : wr.cell? ⟨wA.heap.size, 0, none⟩ = some (.int .u64 x.id) := ses_at hX9 0 (by omega)
            have hxl9 := hX9.lt
            have hne9 : ¬ (busy[q] : Int) = (x.id : Int) := by
              intro e
              have : x.id ∈ busy := by
                have e' : busy[q] = x.id := by omega
                rw [← e']; exact List.getElem_mem hql
              exact HID.out this
            obtain ⟨z, hz⟩ : ∃ z, busy[q] = z := ⟨_, rfl⟩
            rw [hz] at e0 hne9
            clear hX9 hz
            go_wp2_with fail
            refine ⟨?_, ?_⟩
            · exact ⟨q + 1, by omega, rfl, hb9⟩
            · (simp [intOf]) <;> omega
          · obtain rfl : q = busy.length := by omega
            have HBZ := Lib.hid (below_step HBW.out hb9.out)
            clear hb9
            go_wp2_with fail
            refine ⟨?_, ?_⟩
            · exact ⟨j + 1, a, by omega, rfl, rfl, HNEXT, HBZ⟩
            · (simp [intOf]) <;> omega
    · obtain rfl : j = l.length := by omega
      obtain rfl : a = p := HKEEP.out.stop a hJ.out.1 hJ.out.2
      obtain ⟨q, hq⟩ : ∃ q, (l.length : Int) - 1 = q := ⟨_, rfl⟩
      have rl : IntKind.i64.wrap ((l.length : Int) - 1) = q := by
        have h1 := HL.out
        rw [IntKind.wrap_i64]; omega
      have hql : q ≤ (a : Int) := by have := HLP.out; omega
      have hb1 := Lib.hid (below_step HB.out hB.out)
      clear hJ hq
      go_wp2
      refine bodyPost_ret (v := .bool true) (by simp [results, Try.results4, go_sem]) rfl ⟨rfl, hb1.out⟩
end Go.Proofs.Ytmfglppgpjplfaa
