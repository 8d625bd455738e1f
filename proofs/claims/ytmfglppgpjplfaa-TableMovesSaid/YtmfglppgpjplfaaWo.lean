/-
  Walks: sessions set, dropped, closed.
-/
import Derived.Test.YtmfglppgpjplfaaWn
namespace Go.Proofs.Ytmfglppgpjplfaa
open Go.RowKit Go.Proofs.Ytmfglppgpjplfaa.Plan Go.Proofs.Ytmfglppgpjplfaa.Eager
set_option maxHeartbeats 2000000
set_option maxRecDepth 20000
set_option linter.unusedVariables false
set_option linter.unusedSimpArgs false

def putD (l : List Ses) (a : Int) (s : Ses) : List Ses := if 0 ≤ a then l.set a.toNat s else l
theorem put_len (l : List Ses) (a : Int) (s : Ses) : (putD l a s).length = l.length := by unfold putD; split <;> simp
theorem putD_out (l : List Ses) (a : Int) (s : Ses) (h : ¬ (0 ≤ a ∧ a < l.length)) : putD l a s = l := by
  unfold putD
  split
  · rw [List.set_eq_of_length_le (by omega)]
  · rfl
theorem own_put {w : World} {base g cap n : Nat} {l : List Ses} {w' : World} {i : Nat} {s : Ses} (hi : i < l.length)
    (h : Own w' base 30 20 (.slice (some ⟨g, 0, none⟩) n cap) n ((l.flatMap Ses.cells).take (i * 20) ++ s.cells ++ (l.flatMap Ses.cells).drop (i * 20 + s.cells.length))) :
    Own w' base 30 20 (.slice (some ⟨g, 0, none⟩) n cap) n ((l.set i s).flatMap Ses.cells) := by
  rw [cells_20] at h
  rw [flat_set (k := 20) cells_20 l i s hi] at h
  exact h

theorem put22 (l : List Ses) (a : Int) (s : Ses) (w : World) (oa : Option Addr) (n c : Nat) (h : RSes w oa n c l) (hl : l.length ≤ 900) :
    Calls Try.prog 22 #[.slice oa n c, .int .i64 a, .agg s.cells.toArray] w (DropOk w (putD l a s)) := by
  obtain rfl : n = l.length := h.rows.len
  have hal : Below w.heap.size w (w.alloc (.cells s.cells.toArray 30)) := (Below.refl _ _).alloc (Nat.le_refl _) _
  have HX : Hid (Blk (w.alloc (.cells s.cells.toArray 30)) w.heap.size s.cells) := Blk.new' rfl
  have H := Lib.hid (h.below hal); have HB := Lib.hid hal; have HL := Lib.hid hl
  clear h hal hl
  go_enter Try.func22, Try.ntmps22
  go_wp2_with fail
  refine (clone28 l _ oa _ c H.out (by have := HL.out; omega)).mono ?_
  rintro r w1 ⟨v, rfl, hO, hb⟩
  have hO1 : Own w1 (w.heap.size + 1) 30 20 v l.length (l.flatMap Ses.cells) := by simpa using hO
  have HO := Lib.hid hO1
  replace HX := Lib.hid (HX.out.later hb); replace HB := Lib.hid (below_step HB.out hb)
  clear hb hO hO1 H
  by_cases hin : 0 ≤ a ∧ a < l.length
  · obtain ⟨i, rfl⟩ : ∃ i : Nat, a = (i : Int) := ⟨a.toNat, by omega⟩
    have hil : i < l.length := by omega
    have hi1 : (i : Int) < (l.length : Int) := by omega
    have hi0 : (0 : Int) ≤ (i : Int) := by omega
    have HP : Hid (putD l (i : Int) s = l.set i s) := by show _ = _; unfold putD; rw [if_pos (by omega)]; simp
    obtain ⟨g, cap, rfl, hnc, hcm, hbg, -⟩ := HO.out.blk (by omega)
    have HIL := Lib.hid hil
    have HBG := Lib.hid hbg
    clear hin hil hbg
    go_wp2_with (refine stop_load (ty := 30) rfl ?_)
    refine ⟨wpList_load_blk rfl rfl HX.out (by rfl) row30 ?_⟩
    go_wp2_with (refine stop_store (ty := 30) rfl ?_)
    refine ⟨wpList_store_own rfl rfl HO.out (o := i * 20) (by rfl) (vs := s.cells) (by rfl) row30 (by rw [ses_len, cells_20]; have := HIL.out; omega) (ses_one s) ?_⟩
    intro W5 hO5 hg5
    have hO6 := own_put (w := w) HIL.out hO5
    have hb5 := HO.out.below hg5 HB.out (Nat.le_succ _) (by have := HX.out.lt; omega)
    have HO6 := Lib.hid (hO6.mono (Nat.le_succ w.heap.size)); have HB5 := Lib.hid hb5
    clear hO5 hg5 hO6 hb5 HO HB HX
    go_wp2
    refine bodyPost_ret (v := .slice (some ⟨g, 0, none⟩) l.length cap) (by simp [results, Try.results22, go_sem]) rfl ?_
    rw [HP.out]
    exact ⟨_, rfl, by rw [List.length_set]; exact HO6.out, HB5.out⟩
  · have HP := Lib.hid (putD_out l a s hin)
    have HO6 := Lib.hid (HO.out.mono (Nat.le_succ w.heap.size))
    obtain ⟨o', c', rfl, -⟩ := Own.rws HO.out rfl
    by_cases h0 : 0 ≤ a
    · have h1 : ¬ a < (l.length : Int) := by omega
      clear hin HO HX
      go_wp2
      refine bodyPost_ret (v := .slice o' l.length c') (by simp [results, Try.results22, go_sem]) rfl ?_
      rw [HP.out]
      exact ⟨_, rfl, HO6.out, HB.out⟩
    · clear hin HO HX
      go_wp2
      refine bodyPost_ret (v := .slice o' l.length c') (by simp [results, Try.results22, go_sem]) rfl ?_
      rw [HP.out]
      exact ⟨_, rfl, HO6.out, HB.out⟩

theorem drop24 (l : List Ses) (a : Int) (w : World) (oa : Option Addr) (n c : Nat) (h : RSes w oa n c l) (hl : l.length ≤ 900) :
    Calls Try.prog 24 #[.slice oa n c, .int .i64 a] w (DropOk w (dropD l a)) := by
  obtain rfl : n = l.length := h.rows.len
  have H := Lib.hid h; have HL := Lib.hid hl
  clear h hl
  go_enter Try.func24, Try.ntmps24
  go_wp2_with fail
  refine (clone28 l _ oa _ c H.out (by have := HL.out; omega)).mono ?_
  rintro r w1 ⟨v, rfl, hO, hb⟩
  have HO := Lib.hid hO
  have HB := Lib.hid hb
  clear hb hO H
  by_cases hin : 0 ≤ a ∧ a < l.length
  · obtain ⟨i, rfl⟩ : ∃ i : Nat, a = (i : Int) := ⟨a.toNat, by omega⟩
    have hil : i < l.length := by omega
    have hi1 : (i : Int) < (l.length : Int) := by omega
    have hi0 : (0 : Int) ≤ (i : Int) := by omega
    have ri : IntKind.i64.wrap ((i : Int) + 1) = ((i + 1 : Nat) : Int) := by
      have h1 := HL.out
      rw [IntKind.wrap_i64]; omega
    have HP : Hid (dropD l (i : Int) = l.eraseIdx i) := by show _ = _; unfold dropD; rw [if_pos (by omega)]; simp
    obtain ⟨g, cap, rfl, hnc, hcm, hbg, -⟩ := HO.out.blk (by omega)
    have HIL := Lib.hid hil
    clear hin hil hbg hnc hcm
    go_wp2_with fail
    refine (delete_own w1 _ g _ cap i _ HO.out HIL.out (ses_oneCells l)).mono ?_
    rintro r w4 ⟨rfl, hO4, hg4⟩
    rw [erase_flat l i HIL.out] at hO4
    have hb4 := HO.out.below hg4 HB.out (Nat.le_refl _) HB.out.size
    have HO4 := Lib.hid hO4; have HB4 := Lib.hid hb4
    have HEL : Hid ((l.eraseIdx i).length = l.length - 1) := by show _ = _; rw [List.length_eraseIdx, if_pos HIL.out]
    clear hO4 hg4 hb4 HO HB
    go_wp2
    refine bodyPost_ret (v := .slice (some ⟨g, 0, none⟩) (l.length - 1) cap) (by simp [results, Try.results24, go_sem]) rfl ?_
    rw [HP.out]
    exact ⟨_, rfl, by rw [HEL.out]; exact HO4.out, HB4.out⟩
  · have HP : Hid (dropD l a = l) := by
      show _ = _
      unfold dropD
      split
      · rw [List.eraseIdx_of_length_le (by omega)]
      · rfl
    obtain ⟨o', c', rfl, -⟩ := Own.rws HO.out rfl
    by_cases h0 : 0 ≤ a
    · have h1 : ¬ a < (l.length : Int) := by omega
      clear hin
      go_wp2
      refine bodyPost_ret (v := .slice o' l.length c') (by simp [results, Try.results24, go_sem]) rfl ?_
      rw [HP.out]
      exact ⟨_, rfl, HO.out, HB.out⟩
    · clear hin
      go_wp2
      refine bodyPost_ret (v := .slice o' l.length c') (by simp [results, Try.results24, go_sem]) rfl ?_
      rw [HP.out]
      exact ⟨_, rfl, HO.out, HB.out⟩

theorem refPut23 (l : List Ses) (a : Int) (s : Ses) (w : World) (oa : Option Addr) (n c : Nat) (h : RSes w oa n c l) (hl : l.length ≤ 900) :
    Calls Try.prog 23 #[.slice oa n c, .int .i64 a, .agg s.cells.toArray] w (DropOk w (putD l a s)) := by
  obtain rfl : n = l.length := h.rows.len
  have hal : Below w.heap.size w ((w.alloc (.cells s.cells.toArray 30)).alloc (.cells ([] : List Value).toArray 30)) := by (with_reducible try refine Lib.hid ?_); (repeat (with_reducible first | assumption | exact Below.refl _ _ | apply Below.drew | apply Below.drewN' | apply Below.setCell | apply Below.alloc)) <;> (try simp [length_fillTo, length_turnTo]) <;> (try omega)
  have HX : Hid (Blk ((w.alloc (.cells s.cells.toArray 30)).alloc (.cells ([] : List Value).toArray 30)) w.heap.size s.cells) := Blk.alloc (Blk.new' rfl) _
  have HO : Hid (Own ((w.alloc (.cells s.cells.toArray 30)).alloc (.cells ([] : List Value).toArray 30)) (w.heap.size + 1) 30 20 (.slice (some ⟨w.heap.size + 1, 0, none⟩) 0 0) 0 []) := by
    have := Own.lit (w.alloc (.cells s.cells.toArray 30)) [] 30 20 0 (by simp) rfl (w.heap.size + 1) (by simp)
    exact Lib.hid (by simpa using this)
  have H := Lib.hid (h.below hal); have HB := Lib.hid hal; have HL := Lib.hid hl
  clear h hal hl
  go_enter Try.func23, Try.ntmps23
  go_wp2_with (refine stop_append rfl ?_)
  have hl3 := HL.out
  refine ⟨wpList_app el22 rfl (by rfl) (by rfl) HO.out (by rfl) (m := l.length) (by rw [ses_len]) H.out.rows.cells (ses_oneCells l) (by simp [maxLen]; omega) (by omega) (by have := HX.out.lt; omega) ?_⟩
  intro v5 w5 hO5 hg5
  have hb5 := HO.out.below hg5 HB.out (Nat.le_succ _) (by have := HX.out.lt; omega)
  have hX5 := HX.out.grown hg5 (by simp [Value.ownBlock])
  have hO6 : Own w5 (w.heap.size + 1) 30 20 v5 l.length (l.flatMap Ses.cells) := by simpa using hO5
  have HO6 := Lib.hid hO6; have HX6 := Lib.hid hX5; have HB6 := Lib.hid hb5
  clear hO5 hg5 hb5 hX5 hO6 HO HX HB H hl3
  obtain ⟨o', c', rfl, -⟩ := Own.rws HO6.out rfl
  go_wp2_with fail
  go_loopw [8] (fun i wr => ∃ k : Nat, k ≤ l.length ∧ i = .int .i64 k ∧ Hid (Own wr (w.heap.size + 1) 30 20 (.slice o' l.length c') l.length ((if a < (k : Int) then putD l a s else l).flatMap Ses.cells)) ∧ Hid (Blk wr w.heap.size s.cells) ∧ Hid (Below w.heap.size w wr)) (fun i _ => l.length - (intOf i).toNat)
  case atStart =>
    refine ⟨0, by omega, rfl, Lib.hid ?_, HX6, HB6⟩
    split
    · rw [putD_out l a s (by omega)]; exact HO6.out
    · exact HO6.out
  case round =>
    obtain ⟨k, hk, rfl, hO, hX, hB⟩ := hrel
    by_cases hlt : k < l.length
    · have hi1 : (k : Int) < (l.length : Int) := by omega
      have rk : IntKind.i64.wrap ((k : Int) + 1) = ((k + 1 : Nat) : Int) := by
        have h1 := HL.out
        rw [IntKind.wrap_i64]; omega
      obtain ⟨g, cap, e9, hnc, hcm, hbg, -⟩ := hO.out.blk (by omega)
      cases e9
      by_cases hka : (k : Int) = a
      · subst hka
        have hO2 : Own wr (w.heap.size + 1) 30 20 (.slice (some ⟨g, 0, none⟩) l.length c') l.length (l.flatMap Ses.cells) := by
          have := hO.out
          rwa [if_neg (by omega)] at this
        have HO2 := Lib.hid hO2
        have HKL := Lib.hid hlt
        have HP : Hid (putD l (k : Int) s = l.set k s) := by show _ = _; unfold putD; rw [if_pos (by omega)]; simp
        clear hO2 hO hbg
        go_wp2_with (refine stop_load (ty := 30) rfl ?_)
        refine ⟨wpList_load_blk rfl rfl hX.out (by rfl) row30 ?_⟩
        go_wp2_with (refine stop_store (ty := 30) rfl ?_)
        refine ⟨wpList_store_own rfl rfl HO2.out (o := k * 20) (by rfl) (vs := s.cells) (by rfl) row30 (by rw [ses_len, cells_20]; have := HKL.out; omega) (ses_one s) ?_⟩
        intro W5 hO5 hg5
        have hO6 := own_put (w := w) HKL.out hO5
        have hb5 := HO2.out.below hg5 hB.out (Nat.le_succ _) (by have := hX.out.lt; omega)
        have hX5 := hX.out.grown hg5 (by intro e; cases e; have := (HO2.out.row.lt w.heap.size rfl).1; omega)
        have HO6 := Lib.hid hO6; have HB5 := Lib.hid hb5; have HX5 := Lib.hid hX5
        clear hO5 hg5 hO6 hb5 hX5 hX hB HO2
        go_wp2_with fail
        go_roundw
        case measure => (simp [intOf]) <;> omega
        case rel => exact ⟨k + 1, by omega, rfl, Lib.hid (by rw [if_pos (by omega), HP.out]; exact HO6.out), HX5, HB5⟩
      · have HO2 : Hid (Own wr (w.heap.size + 1) 30 20 (.slice (some ⟨g, 0, none⟩) l.length c') l.length ((if a < ((k + 1 : Nat) : Int) then putD l a s else l).flatMap Ses.cells)) := by
          have h := hO.out
          show Own _ _ _ _ _ _ _
          by_cases h1 : a < (k : Int)
          · rw [if_pos h1] at h; rw [if_pos (by omega)]; exact h
          · rw [if_neg h1] at h; rw [if_neg (by omega)]; exact h
        clear hO hbg
        go_wp2_with fail
        go_roundw
        case measure => (simp [intOf]) <;> omega
        case rel => exact ⟨k + 1, by omega, rfl, HO2, hX, hB⟩
    · obtain rfl : k = l.length := by omega
      have HO2 : Hid (Own wr w.heap.size 30 20 (.slice o' l.length c') (putD l a s).length ((putD l a s).flatMap Ses.cells)) := by
        have h := hO.out.mono (Nat.le_succ w.heap.size)
        show Own _ _ _ _ _ _ _
        rw [put_len]
        by_cases h1 : a < (l.length : Int)
        · rw [if_pos h1] at h; exact h
        · rw [if_neg h1] at h; rw [putD_out l a s (by omega)]; exact h
      have HB2 := hB
      clear hO hX hB
      go_wp2
      refine bodyPost_ret (v := .slice o' l.length c') (by simp [results, Try.results23, go_sem]) rfl ⟨_, rfl, HO2.out, HB2.out⟩
end Go.Proofs.Ytmfglppgpjplfaa
