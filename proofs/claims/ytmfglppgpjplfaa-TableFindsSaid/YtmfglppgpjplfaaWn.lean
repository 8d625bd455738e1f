/-
  The law's walk: a table with one more session.
-/
import Derived.Test.YtmfglppgpjplfaaWm
import Derived.Test.YtmfglppgpjplfaaWj
namespace Go.Proofs.Ytmfglppgpjplfaa
open Go.RowKit Go.Proofs.Ytmfglppgpjplfaa.Plan Go.Proofs.Ytmfglppgpjplfaa.Eager
set_option maxHeartbeats 4000000
set_option maxRecDepth 20000
set_option linter.unusedVariables false
set_option linter.unusedSimpArgs false

theorem add_mem (l : List Ses) (busy : List Nat) (s : Ses) : ∀ x ∈ (addD l busy s).1, x ∈ l ∨ x = s := by
  rcases add_case l busy s with ⟨e, hadd, -⟩ | ⟨K, p, J, hadd, -, -, -, -, -, hK⟩
  · rw [hadd]; exact fun x hx => .inl hx
  · rw [hadd]; exact hK
theorem tableAdds3 (l : List Ses) (busy : List Nat) (s : Ses) (w : World) (oa : Option Addr) (n c : Nat) (ob : Option Addr) (nb cb : Nat) (h : RSes w oa n c l) (h' : RU w ob nb cb busy) (hwf : ∀ x ∈ l, x.Wf) (hsw : s.Wf) :
    Calls Try.prog 3 #[.slice oa n c, .slice ob nb cb, .agg s.cells.toArray] w fun r w' => r = .returned (.bool true) ∧ Below w.heap.size w w' := by
  obtain rfl : n = l.length := h.rows.len
  obtain rfl : nb = busy.length := h'.rows.len
  have hal : Below w.heap.size w (w.alloc (.cells s.cells.toArray 30)) := (Below.refl _ _).alloc (Nat.le_refl _) _
  have HX : Hid (Blk (w.alloc (.cells s.cells.toArray 30)) w.heap.size s.cells) := Blk.new' rfl
  have H := Lib.hid (h.below hal); have HU := Lib.hid (h'.below hal); have HB := Lib.hid hal; have HWF := Lib.hid hwf
  have HAW : Hid (∀ x ∈ (addD l busy s).1, x.Wf) := fun x hx => by
    rcases add_mem l busy s x hx with h | h
    · exact hwf x h
    · rw [h]; exact hsw
  clear h h' hal hwf hsw
  go_enter Try.func3, Try.ntmps3
  go_wp2_with fail
  refine (great7 l _ oa _ c H.out).mono ?_
  rintro r w2 ⟨⟨b, rfl, hbl⟩, hb⟩
  replace HX := Lib.hid (HX.out.later hb); replace H := Lib.hid (H.out.below hb); replace HU := Lib.hid (HU.out.below hb); replace HB := Lib.hid (below_step HB.out hb)
  have HBL := Lib.hid hbl
  clear hb hbl
  cases b with
  | true =>
    go_wp2_with fail
    refine (works9 _).mono ?_
    rintro r w3 ⟨rfl, hb⟩
    replace HB := Lib.hid (below_step HB.out hb)
    clear hb
    go_wp2
    refine bodyPost_ret (v := .bool true) (by simp [results, Try.results3, go_sem]) rfl ⟨rfl, HB.out⟩
  | false =>
  have hl : l.length ≤ 60 := HBL.out rfl
  have HL := Lib.hid hl; clear hl HBL
  go_wp2_with (refine stop_load (ty := 30) rfl ?_)
  refine ⟨wpList_load_blk_w (by rfl) rfl HX.out (by rfl) row30 ?_⟩
  go_wp2_with fail
  refine (greatS8 s w2).mono ?_
  rintro r w3 ⟨⟨b, rfl⟩, hb⟩
  replace HX := Lib.hid (HX.out.later hb); replace H := Lib.hid (H.out.below hb); replace HU := Lib.hid (HU.out.below hb); replace HB := Lib.hid (below_step HB.out hb)
  clear hb
  cases b with
  | true =>
    go_wp2_with fail
    refine (works9 _).mono ?_
    rintro r w4 ⟨rfl, hb⟩
    replace HB := Lib.hid (below_step HB.out hb)
    clear hb
    go_wp2
    refine bodyPost_ret (v := .bool true) (by simp [results, Try.results3, go_sem]) rfl ⟨rfl, HB.out⟩
  | false =>
  by_cases hbb : (100 : Int) < (busy.length : Int)
  · go_wp2_with fail
    refine (works9 _).mono ?_
    rintro r w4 ⟨rfl, hb⟩
    replace HB := Lib.hid (below_step HB.out hb)
    clear hb
    go_wp2
    refine bodyPost_ret (v := .bool true) (by simp [results, Try.results3, go_sem]) rfl ⟨rfl, HB.out⟩
  have hal : Below w3.heap.size w3 (w3.alloc (.cells ([] : List Value).toArray 30)) := (Below.refl _ _).alloc (Nat.le_refl _) _
  have HO : Hid (Own (w3.alloc (.cells ([] : List Value).toArray 30)) w3.heap.size 30 20 (.slice (some ⟨w3.heap.size, 0, none⟩) 0 0) 0 []) := Own.lit w3 [] 30 20 0 (by simp) rfl _ (Nat.le_refl _)
  have HAL := Lib.hid hal
  have HH2 := Lib.hid (H.out.below hal)
  clear hal
  go_wp2_with (refine stop_append rfl ?_)
  clear hbb
  have hl3 := HL.out
  refine ⟨wpList_app el22 rfl (by rfl) (by rfl) HO.out (by rfl) (m := l.length) (by rw [ses_len]) HH2.out.rows.cells (ses_oneCells l) (by simp [maxLen]; omega) (by omega) HAL.out.size ?_⟩
  intro v5 w5 hO5 hg5
  have hb5 := HO.out.below hg5 HAL.out (Nat.le_refl _) HAL.out.size
  have hO6 : Own w5 w3.heap.size 30 20 v5 l.length (l.flatMap Ses.cells) := by simpa using hO5
  obtain ⟨oo, co, rfl, hR⟩ := Own.rws hO6 rfl
  have HO5 := Lib.hid hR
  replace HX := Lib.hid (HX.out.later hb5); replace H := Lib.hid (H.out.below hb5); replace HU := Lib.hid (HU.out.below hb5); replace HB := Lib.hid (below_step HB.out hb5)
  clear hO5 hO6 hg5 hb5 HO HAL HH2 hl3 hR
  go_wp2_with (refine stop_load (ty := 30) rfl ?_)
  refine ⟨wpList_load_blk rfl rfl HX.out (by rfl) row30 ?_⟩
  go_wp2_with fail
  refine (add10 l busy s w5 oo _ co ob _ cb HO5.out HU.out (by have := HL.out; omega)).mono ?_
  rintro r w6 ⟨v, rfl, hOa, hb⟩
  replace HX := Lib.hid (HX.out.later hb); replace H := Lib.hid (H.out.below hb); replace HU := Lib.hid (HU.out.below hb); replace HB := Lib.hid (below_step HB.out hb); replace HO5 := Lib.hid (HO5.out.below hb)
  obtain ⟨oA, cA, rfl, hRA⟩ := Own.rws hOa rfl
  have HRA := Lib.hid hRA
  clear hb hOa hRA
  go_wp2_with (refine stop_load (ty := 30) rfl ?_)
  refine ⟨wpList_load_blk rfl rfl HX.out (by rfl) row30 ?_⟩
  go_wp2_with fail
  refine (refAdd11 l busy s w6 oa _ c ob _ cb H.out HU.out (by have := HL.out; omega)).mono ?_
  rintro r w7 ⟨v, rfl, ⟨oR, cR, rfl, hRR⟩, hb⟩
  replace H := Lib.hid (H.out.below hb); replace HB := Lib.hid (below_step HB.out hb); replace HO5 := Lib.hid (HO5.out.below hb); replace HRA := Lib.hid (HRA.out.below hb)
  have HRR := Lib.hid hRR
  clear hb hRR HX HU
  obtain ⟨R, hR⟩ : ∃ R, addD l busy s = R := ⟨_, rfl⟩
  rw [hR] at HRA HRR HAW ⊢
  clear hR
  obtain ⟨K, e⟩ := R
  simp only at HRA HRR HAW ⊢
  go_wp2_with fail
  refine (same12 K K w7 oA oR _ _ cA cR HRA.out HRR.out HAW.out HAW.out).mono ?_
  rintro r w8 ⟨rfl, hb⟩
  rw [decide_eq_true rfl]
  replace H := Lib.hid (H.out.below hb); replace HB := Lib.hid (below_step HB.out hb); replace HO5 := Lib.hid (HO5.out.below hb)
  clear hb HRA HRR HAW
  go_wp2_with fail
  refine (same12 l l w8 oo oa _ _ co c HO5.out H.out HWF.out HWF.out).mono ?_
  rintro r w9 ⟨rfl, hb⟩
  rw [decide_eq_true rfl]
  replace HB := Lib.hid (below_step HB.out hb)
  clear hb HO5 H HWF
  go_wp2_with fail
  refine (works9 _).mono ?_
  rintro r w10 ⟨rfl, hb⟩
  replace HB := Lib.hid (below_step HB.out hb)
  clear hb
  go_wp2
  refine bodyPost_ret (v := .bool true) (by simp [results, Try.results3, go_sem]) rfl ⟨rfl, HB.out⟩
end Go.Proofs.Ytmfglppgpjplfaa
