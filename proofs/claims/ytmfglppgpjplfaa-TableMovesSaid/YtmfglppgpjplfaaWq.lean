/-
  Walks: sessions deleted by a closure; those with a name closed.
-/
import Derived.Test.YtmfglppgpjplfaaWp
namespace Go.Proofs.Ytmfglppgpjplfaa
open Go.RowKit Go.Proofs.Ytmfglppgpjplfaa.Plan Go.Proofs.Ytmfglppgpjplfaa.Eager
set_option maxHeartbeats 4000000
set_option maxRecDepth 20000
set_option linter.unusedVariables false
set_option linter.unusedSimpArgs false

def delD (p : Ses → Bool) (l : List Ses) : List Ses := l.filter fun s => !p s
theorem del_succ (p : Ses → Bool) (l : List Ses) {k : Nat} (h : k < l.length) : delD p (l.take (k + 1)) = delD p (l.take k) ++ (if p l[k] then [] else [l[k]]) := by
  unfold delD
  rw [List.take_succ_eq_append_getElem h, List.filter_append]
  congr 1
  cases hh : p l[k] <;> simp [hh]
theorem del_all (p : Ses → Bool) (l : List Ses) (h : ∀ s ∈ l, p s = false) : delD p l = l := by
  unfold delD
  rw [List.filter_eq_self]
  intro s hs
  simp [h s hs]

theorem below_base {base : Nat} {W w w' : World} (h : Below base W w) (hs : base ≤ W.heap.size) (k : Below w.heap.size w w') : Below base W w' := h.trans (k.mono (Nat.le_trans hs h.size))
theorem deleteFunc43 (g : FuncId) (eg : ∀ args w, (callFunc g args).run Try.prog w = .ok (.enter g args) w) (B : Nat) (cv : Value) (p : Ses → Bool)
    (hf : ∀ (s : Ses) (W : World), W.cell? ⟨B, 0, none⟩ = some cv → Calls Try.prog g #[.agg s.cells.toArray, .pointer (some ⟨B, 0, none⟩)] W fun r W' => r = .returned (.bool (p s)) ∧ Below W.heap.size W W')
    (l : List Ses) (w : World) (base : Nat) (v : Value) (hO : Own w base 30 20 v l.length (l.flatMap Ses.cells)) (hX : Blk w B [cv]) (hlt : B < base) (hs : base ≤ w.heap.size) (hl : l.length ≤ 900) :
    Calls Try.prog 43 #[v, .func (.func g) #[] #[.pointer (some ⟨B, 0, none⟩)]] w fun r w' => ∃ v', r = .returned v' ∧ Own w' base 30 20 v' (delD p l).length ((delD p l).flatMap Ses.cells) ∧ Below base w w' := by
  obtain ⟨oa, c, rfl, hR⟩ := Own.rws hO rfl
  have HC := indexFunc34 g eg B p (fun W => W.cell? ⟨B, 0, none⟩ = some cv) (fun W W' h hb => cell_later h hb) hf l w oa l.length c hR (by simpa using hX.at' 0 (by simp))
  have HF := Lib.hid hf; have HO := Lib.hid hO; have HX := Lib.hid hX; have HS := Lib.hid hs; have HL := Lib.hid hl; have HBB := Lib.hid hlt
  clear hf hO hX hs hl hR hlt
  go_enter Try.func43, Try.ntmps43
  go_wp2_with fail
  refine HC.mono ?_
  rintro r w1 ⟨rfl, hb⟩
  clear HC
  replace HO := Lib.hid (HO.out.later hb); replace HX := Lib.hid (HX.out.later hb)
  have HB := Lib.hid (show Below base w w1 from hb.mono HS.out)
  clear hb
  obtain ⟨q, hq⟩ : ∃ q, idxD p l = q := ⟨_, rfl⟩
  rw [hq]
  rcases idx_split p l q hq with ⟨rfl, hall⟩ | ⟨i, rfl, hil, hK, hF⟩
  · have HD := Lib.hid (del_all p l hall)
    clear hq hall
    go_wp2
    refine bodyPost_ret (v := .slice oa l.length c) (by simp [results, Try.results43, go_sem]) rfl ⟨_, rfl, by rw [HD.out]; exact HO.out, HB.out⟩
  · have hne : ((i : Int) == -1) = false := by simp
    have ri : IntKind.i64.wrap ((i : Int) + 1) = ((i + 1 : Nat) : Int) := by
      have h1 := HL.out
      rw [IntKind.wrap_i64]; omega
    obtain ⟨b, c', e, hnc, hcm, hbg, -⟩ := HO.out.blk (by omega)
    cases e
    have HIL := Lib.hid hil; have HK := Lib.hid hK; have HM : Hid (l.take i = delD p (l.take (i + 1))) := hF.symm
    have HBG := Lib.hid hbg; have HNC := Lib.hid hnc; have HCM := Lib.hid hcm
    clear hq hil hK hF hbg hnc hcm
    go_wp2_with fail
    clear hne
    go_loopw [5, 6, 7] (fun a b' _ wr => ∃ (j m : Nat) (M K : List Ses), j ≤ l.length ∧ m < j ∧ a = .int .i64 m ∧ b' = .int .i64 j ∧ Hid (M.length = m) ∧ Hid (Kept l K M j) ∧ Hid (M = delD p (l.take j)) ∧ Hid (Own wr base 30 20 (.slice (some ⟨b, 0, none⟩) l.length c) l.length (K.flatMap Ses.cells)) ∧ Hid (Blk wr B [cv]) ∧ Hid (Below base w wr)) (fun _ b' _ _ => l.length - (intOf b').toNat)
    case atStart =>
      have := HIL.out
      exact ⟨i + 1, i, l.take i, l, by omega, by omega, rfl, rfl, Lib.hid (by simp; omega), HK, HM, HO, HX, HB⟩
    case round =>
      obtain ⟨j, m, M, K, hj, hmj, rfl, rfl, hml, hK, hM, hO, hX, hB⟩ := hrel
      by_cases hlt : j < l.length
      · have hi1 : (j : Int) < (l.length : Int) := by omega
        have hi2 : (m : Int) < (l.length : Int) := by omega
        have rk : IntKind.i64.wrap ((j : Int) + 1) = ((j + 1 : Nat) : Int) := by
          have h1 := HL.out
          rw [IntKind.wrap_i64]; omega
        have rm : IntKind.i64.wrap ((m : Int) + 1) = ((m + 1 : Nat) : Int) := by
          have h1 := HL.out
          rw [IntKind.wrap_i64]; omega
        have hKl := hK.out.len
        have hKj : j < K.length := by omega
        have hA : At wr b (j * 20) K[j].cells := by
          obtain ⟨o2, c2, e2, hR⟩ := Own.rws hO.out hKl.symm
          injection e2 with e2 e4 e5
          subst e2
          obtain ⟨b2, p2, e3, h⟩ := hR.rows.ses hKj
          cases e3
          rwa [Nat.zero_add] at h
        rw [hK.out.post j hKj hlt (Nat.le_refl _)] at hA
        have HT := Lib.hid (del_succ p l hlt)
        have HP := Lib.hid (hK.out.put hlt)
        have HQ := Lib.hid hK.out.pass
        obtain ⟨s, hs⟩ : ∃ s, l[j] = s := ⟨_, rfl⟩
        rw [hs] at hA HT
        clear hs hKl hKj hK
        have hal : Below wr.heap.size wr (wr.alloc (.cells ses0.cells.toArray 30)) := (Below.refl _ _).alloc (Nat.le_refl _) _
        have HZ : Hid (Blk (wr.alloc (.cells ses0.cells.toArray 30)) wr.heap.size ses0.cells) := Blk.new' rfl
        have HAL := Lib.hid hal
        have HOZ := Lib.hid hO.out
        clear hal
        go_wp2_with (refine stop_load (ty := 30) rfl ?_)
        refine ⟨wpList_load_at rfl rfl hA (by rfl) row30 ?_⟩
        clear hA
        go_wp2_with (refine stop_store (ty := 30) rfl ?_)
        refine ⟨wpList_store_blk rfl rfl HZ.out (by rfl) (vs := s.cells) (by rfl) row30 rfl (ses_one s) ?_⟩
        intro W5 hX5 hg5
        have hbk5 := Below.grownB HAL.out hg5 (Nat.le_refl _) HAL.out.size
        have HZ5 := Lib.hid hX5
        replace hO := Lib.hid (hO.out.later hbk5); replace hX := Lib.hid (hX.out.later hbk5); replace hB := Lib.hid (below_base hB.out HS.out hbk5)
        have HN5 : Hid (wr.heap.size ≠ b) := by
          have := HBG.out
          have h1 := (HOZ.out.row.lt b rfl).2
          show _ ≠ _
          omega
        clear hX5 hg5 hbk5 HAL HZ HOZ
        go_wp2_with (refine stop_load (ty := 30) rfl ?_)
        refine ⟨wpList_load_blk rfl rfl HZ5.out (by rfl) row30 ?_⟩
        go_wp2_with fail
        refine (HF.out s W5 (by simpa using hX.out.at' 0 (by simp))).mono ?_
        rintro r w6 ⟨rfl, hb6⟩
        replace hO := Lib.hid (hO.out.later hb6); replace hX := Lib.hid (hX.out.later hb6); replace hB := Lib.hid (below_base hB.out HS.out hb6); replace HZ5 := Lib.hid (HZ5.out.later hb6)
        clear hb6
        cases hp : p s
        · rw [hp] at HT
          have HT2 : Hid (M ++ [s] = delD p (l.take (j + 1))) := by show _ = _; rw [HT.out, ← hM.out]; rfl
          clear hp HT hM
          go_wp2_with (refine stop_load (ty := 30) rfl ?_)
          refine ⟨wpList_load_blk rfl rfl HZ5.out (by rfl) row30 ?_⟩
          go_wp2_with (refine stop_store (ty := 30) rfl ?_)
          have hkl := HQ.out.len
          refine ⟨wpList_store_own rfl rfl hO.out (o := m * 20) (by rfl) (vs := s.cells) (by rfl) row30 (by rw [ses_len, cells_20]; omega) (ses_one s) ?_⟩
          intro W7 hO7 hg7
          have hO8 := own_put (w := w) (by omega) hO7
          have hb8 := hO.out.below hg7 hB.out (Nat.le_refl _) (Nat.le_trans HS.out hB.out.size)
          have hX8 := hX.out.grown hg7 (by intro e; cases e; have := HBG.out; have := HBB.out; omega)
          have HO8 := Lib.hid hO8; have HB8 := Lib.hid hb8; have HX8 := Lib.hid hX8
          clear hO7 hg7 hO8 hb8 hX8 hkl hO hB hX HZ5
          go_wp2_with fail
          go_roundw
          case measure => (simp [intOf]) <;> omega
          case rel => exact ⟨j + 1, m + 1, M ++ [s], K.set m s, by omega, by omega, rfl, rfl, Lib.hid (by simp [hml.out]), Lib.hid (by rw [← hml.out]; exact HP.out s), HT2, HO8, HX8, HB8⟩
        · rw [hp] at HT
          have HT2 : Hid (M = delD p (l.take (j + 1))) := by show _ = _; rw [HT.out, ← hM.out]; simp
          clear hp HT hM
          go_wp2_with fail
          go_roundw
          case measure => (simp [intOf]) <;> omega
          case rel => exact ⟨j + 1, m, M, K, by omega, by omega, rfl, rfl, hml, HQ, HT2, hO, hX, hB⟩
      · obtain rfl : j = l.length := by omega
        rw [List.take_length] at hM
        have hKl := HNC.out
        have hcm := HCM.out
        have hi2 : m ≤ c := by omega
        have hi3 : m ≤ l.length := by omega
        have hi4 : ¬ c = m := by omega
        have hc9 : c ≤ 9223372036854775807 := by simpa [maxLen] using hcm
        obtain ⟨b2, c2, e2, -, -, -, hBk⟩ := hO.out.blk (by omega)
        cases e2
        have hlk := hK.out.len
        obtain ⟨vs, hvl, hcl⟩ := run_clear_blk (P := Try.prog) (w := wr) 22 30 (z := .agg #[.int .u64 0, .int .u64 0, .string ⟨#[]⟩, .int .u64 0, .int .i64 0, .int .i64 0, .int .i64 0, .string ⟨#[]⟩, .int .i64 0, .int .i64 0, .string ⟨#[]⟩, .string ⟨#[]⟩, .int .i64 0, .int .i64 0, .int .i64 0, .int .i64 0, .int .i64 0, .int .u64 0, .int .u64 0, .int .i64 0]) rfl (fun w => by kernel_rfl) (by simp [Value.cells, Value.oneCell']) hBk (m * 20) 20 (l.length - m) (c - m) rfl (by omega) (by omega) (by rw [ses_len]; omega)
        have e2 := Own.setCells vs (m * 20) _ _ hO.out (by rw [hvl, ses_len]; omega)
        have e3 := Own.shrink e2 (m := m) (by omega)
        have g2 := setCells_grown b vs (m * 20) wr
        have hb8 := hO.out.below g2 hB.out (Nat.le_refl _) (Nat.le_trans HS.out hB.out.size)
        have e4 : (((K.flatMap Ses.cells).take (m * 20) ++ vs ++ (K.flatMap Ses.cells).drop (m * 20 + vs.length)).take (m * 20)) = M.flatMap Ses.cells := by
          have h1 : ((K.flatMap Ses.cells).take (m * 20)).length = m * 20 := by rw [List.length_take, ses_len]; omega
          rw [List.append_assoc, List.take_left' h1]
          have h2 : K = M ++ K.drop m := by
            have := hK.out.pre
            rw [hml.out] at this
            rw [← this]; simp
          have h3 : (M.flatMap Ses.cells).length = m * 20 := by rw [ses_len, hml.out]
          rw [h2, List.flatMap_append, List.take_left' h3]
        rw [e4] at e3
        have HE : Hid (Own (wr.setCells b (m * 20) vs) base 30 20 (.slice (some ⟨b, 0, none⟩) (delD p l).length c) (delD p l).length ((delD p l).flatMap Ses.cells)) := by
          show Own _ _ _ _ _ _ _
          rw [← hM.out, hml.out]; exact e3
        have HLM : Hid ((delD p l).length = m) := by show _ = _; rw [← hM.out, hml.out]
        have HB8 := Lib.hid hb8
        clear e2 e3 e4 g2 hb8 hBk hlk hKl hcm hO hX hB hM hK hvl hml
        obtain ⟨W8, hW8⟩ : ∃ W8, wr.setCells b (m * 20) vs = W8 := ⟨_, rfl⟩
        rw [hW8] at hcl HE HB8
        clear hW8
        go_wp2
        refine bodyPost_ret (v := .slice (some ⟨b, 0, none⟩) m c) (by simp [results, Try.results43, go_sem]) rfl ?_
        rw [← HLM.out]
        exact ⟨_, rfl, HE.out, HB8.out⟩

theorem close26 (l : List Ses) (name : ByteArray) (w : World) (oa : Option Addr) (n c : Nat) (h : RSes w oa n c l) (hl : l.length ≤ 900) :
    Calls Try.prog 26 #[.slice oa n c, .string name] w (DropOk w (closeD l name)) := by
  obtain rfl : n = l.length := h.rows.len
  have hal : Below w.heap.size w (w.alloc (.cells #[.string name] 9)) := (Below.refl _ _).alloc (Nat.le_refl _) _
  have HX : Hid (Blk (w.alloc (.cells #[.string name] 9)) w.heap.size [.string name]) := Blk.new' rfl
  have H := Lib.hid (h.below hal); have HB := Lib.hid hal; have HL := Lib.hid hl
  clear h hal hl
  go_enter Try.func26, Try.ntmps26
  go_wp2_with fail
  refine (clone28 l _ oa _ c H.out (by have := HL.out; omega)).mono ?_
  rintro r w1 ⟨v, rfl, hO, hb⟩
  have hO1 : Own w1 (w.heap.size + 1) 30 20 v l.length (l.flatMap Ses.cells) := by simpa using hO
  have HO := Lib.hid hO1
  replace HX := Lib.hid (HX.out.later hb); replace HB := Lib.hid (below_step HB.out hb)
  clear hb hO hO1 H
  go_wp2_with fail
  refine (deleteFunc43 44 eg44 w.heap.size _ (isName name) (fun s W h => isName44 name _ s W h) l w1 (w.heap.size + 1) v HO.out HX.out (by omega) (by have := HX.out.lt; omega) HL.out).mono ?_
  rintro r w2 ⟨v', rfl, hO, hb⟩
  have HO2 := Lib.hid (hO.mono (Nat.le_succ w.heap.size))
  have HB2 := Lib.hid (HB.out.trans (hb.mono (Nat.le_succ w.heap.size)))
  clear hO hb HO HB HX
  go_wp2
  refine bodyPost_ret (v := v') (by simp [results, Try.results26, go_sem]) rfl ⟨_, rfl, HO2.out, HB2.out⟩
end Go.Proofs.Ytmfglppgpjplfaa
