/-
  The walk of the law WindowOnce: it returns true and leaves what was there as it was.
-/
import Derived.Test.YtbkgjijhjlcojaaWn
namespace Go.Proofs.Ytbkgjijhjlcojaa
open Go.RowKit Go.Proofs.Ytbkgjijhjlcojaa.Eager
set_option maxHeartbeats 1000000
set_option linter.unusedVariables false
set_option linter.unusedSimpArgs false

theorem once_great (oa : Option Addr) (c len : Nat) (w : World) (h : 100 < len) :
    Calls Try.prog 4 #[.slice oa len c] w fun r w' => r = .returned (.bool true) ∧ Below w.heap.size w w' := by
  have hd : decide ((100 : Int) < (len : Int)) = true := by simp; omega
  go_enter Try.func4, Try.ntmps4
  go_wp2_with fail
  refine (works12 _).mono ?_
  rintro r w1 ⟨rfl, h1⟩
  go_wp2
  go_ret
  exact ⟨rfl, h1⟩

theorem once_small (oa : Option Addr) (c len : Nat) (l : List Nat) (w : World) (hl : Hid (len = l.length)) (hc : Hid (Cells w oa (l.map U16))) (h16 : Hid (∀ x ∈ l, x < 65536)) (hsm : len ≤ 100) :
    Calls Try.prog 4 #[.slice oa len c] w fun r w' => r = .returned (.bool true) ∧ Below w.heap.size w w' := by
  have hd : decide ((100 : Int) < (len : Int)) = false := by simp; omega
  go_enter Try.func4, Try.ntmps4
  go_wp2_with fail
  refine (works12 _).mono ?_
  rintro r w1 ⟨rfl, h1⟩
  have E : Cell3 (w1.alloc (.cells #[.int .i64 0, .int .u64 0, .int .u64 0] 24)) w1.heap.size (.int .i64 0) (.int .u64 0) (.int .u64 0) := Cell3.of_block (e := 24) (by rw [heap_alloc_at, if_pos rfl])
  have hal : Below w1.heap.size w1 (w1.alloc (.cells #[.int .i64 0, .int .u64 0, .int .u64 0] 24)) := (Below.refl _ _).alloc (Nat.le_refl _) _
  have hB : w.heap.size ≤ w1.heap.size := h1.size
  replace h1 := below_step h1 hal
  have HE := Lib.hid E; have H1 := Lib.hid h1; clear E h1 hal
  generalize hg : w1.heap.size = g at *
  go_wp2
  clear hd hg
  go_loopw [4, 18] (fun tp i wr => ∃ k : Nat, k ≤ len ∧ i = .int .i64 k ∧ tp = .int .i64 ((topA 0 (l.take k) : Nat) : Int) ∧
      Hid (Cell3 wr g (.int .i64 (foldW (l.take k)).1) (.int .u64 ((foldW (l.take k)).2.1 : Int)) (.int .u64 ((foldW (l.take k)).2.2 : Int))) ∧ Hid (Below w.heap.size w wr)) (fun _ i _ => len - (intOf i).toNat)
  case atStart => exact ⟨0, by omega, rfl, rfl, HE, H1⟩
  case round =>
    obtain ⟨k, hk, rfl, rfl, hE, hbel⟩ := hrel
    clear HE H1
    have hgood := Lib.hid (goodW_fold l h16.out k (by have := hl.out; omega))
    by_cases hlt : k < len
    · have hkl : k < l.length := by have := hl.out; omega
      obtain ⟨b, o, rfl, hb, hcell⟩ := hc.out.at' (i := k) (by simpa using hkl)
      rw [List.getElem_map] at hcell
      unfold U16 at hcell
      have hcell' := (hbel.out.cell (p := ⟨b, o + k, none⟩) hb).trans hcell
      clear hcell
      have hx16 := h16.out l[k] (List.getElem_mem hkl)
      have hT := topA_lt (l.take k) (fun x hx => h16.out x (List.mem_of_mem_take hx)) 0 (by omega)
      have hst : l.take (k + 1) = l.take k ++ [l[k]] := List.take_succ_eq_append_getElem hkl
      have HF := Lib.hid (show foldW (l.take (k + 1)) = stepW (foldW (l.take k)) l[k] from by rw [hst, foldW_snoc])
      have HTS := Lib.hid (show topA 0 (l.take (k + 1)) = max (topA 0 (l.take k)) l[k] from by rw [hst, topA_snoc])
      obtain ⟨gt, glo, ghi, -⟩ := hgood.out
      clear hst hgood
      generalize foldW (l.take k) = s at *
      generalize topA 0 (l.take k) = T at *
      generalize l[k] = x at *
      obtain ⟨t, p, q⟩ := s
      simp only at gt glo ghi hE
      have hxw : IntKind.i64.wrap (x : Int) = (x : Int) := by rw [IntKind.wrap_i64]; omega
      have GT := Lib.hid gt; have GLO := Lib.hid glo; have GHI := Lib.hid ghi; have HT := Lib.hid hT; have HX := Lib.hid hx16
      clear gt glo ghi hT hx16
      by_cases hx1 : x < 1
      · have hx2 : decide ((x : Int) < 1) = true := by simp; omega
        rw [stepW, if_pos hx1] at HF
        have HX1 := Lib.hid hx1; clear hx1
        go_wp2
        go_roundw
        case rel => exact ⟨k + 1, by omega, by go_num, by rw [HTS.out]; have := HX1.out; congr 1; omega, by rw [HF.out]; exact hE, hbel⟩
        case measure => simp [intOf]; omega
      · have hx2 : decide ((x : Int) < 1) = false := by simp; omega
        rw [stepW, if_neg hx1] at HF
        simp only at HF
        have H6 := fun W => Lib.hid (fresh6 t p q (x : Int) W GLO GHI)
        have H8 := fun W => Lib.hid (mark8 t p q (x : Int) W GLO GHI)
        have hmb := mark_lt t p q (x : Int) GLO.out GHI.out
        have H10 := fun W => Lib.hid (seen10 (markL t p q (x : Int)).1 (markL t p q (x : Int)).2.1 (markL t p q (x : Int)).2.2 (x : Int) W hmb.1 hmb.2)
        have H6' := fun W => Lib.hid (fresh6 (markL t p q (x : Int)).1 (markL t p q (x : Int)).2.1 (markL t p q (x : Int)).2.2 (x : Int) W hmb.1 hmb.2)
        have HAG := Lib.hid (fun hf => again t p q (x : Int) GLO.out (by omega) (by have := HX.out; omega) (by rw [GT.out]; omega) (by rw [GT.out]; have := HT.out; omega) hf)
        clear hx1 hmb
        generalize freshL t p q (x : Int) = f at *
        generalize markL t p q (x : Int) = s' at *
        obtain ⟨t', p', q'⟩ := s'
        simp only at H8 H10 H6' HAG
        have E := hE.out
        obtain ⟨c0, c1, c2, g0, g1, g2⟩ := id E
        go_wp2_with fail
        refine (H6 _).out.mono ?_
        rintro r w2 ⟨rfl, hb2⟩
        clear c0 c1 c2 g0 g1 g2
        replace E := E.later hb2
        have h1 := below_step hbel.out hb2
        obtain ⟨c0, c1, c2, g0, g1, g2⟩ := id E
        clear hb2
        go_wp2_with fail
        refine (H8 _).out.mono ?_
        rintro r w3 ⟨rfl, hb3⟩
        clear c0 c1 c2 g0 g1 g2
        replace E := E.later hb3
        replace h1 := below_step h1 hb3
        clear hb3
        obtain ⟨c0, c1, c2, g0, g1, g2⟩ := id E
        have E2 := ((E.set0 (.int .i64 t')).set1 (.int .u64 (p' : Int))).set2 (.int .u64 (q' : Int))
        have h2 := ((h1.setCell (p := ⟨g, 0, none⟩) hB (.int .i64 t')).setCell (p := ⟨g, 1, none⟩) hB (.int .u64 (p' : Int))).setCell (p := ⟨g, 2, none⟩) hB (.int .u64 (q' : Int))
        have HE2 := Lib.hid E2; have H2 := Lib.hid h2; clear E E2 h1 h2 hE
        cases hf : (f == 0) with
        | false =>
          clear H6 H8 H10 H6' HAG
          go_wp2
          go_roundw
          case rel => exact ⟨k + 1, by omega, by go_num, by rw [HTS.out]; congr 1; split <;> omega, by rw [HF.out]; exact HE2, H2⟩
          case measure => simp [intOf]; omega
        | true =>
          obtain ⟨hs1, hs2⟩ := HAG.out (by simpa using hf)
          rw [hs1] at H10
          rw [hs2] at H6'
          clear H6 H8 hs1 hs2 HAG
          by_cases hTx : T < x
          all_goals
            go_wp2_with fail
            refine (H10 _).out.mono ?_
            rintro r w4 ⟨rfl, hb4⟩
            clear c0 c1 c2 g0 g1 g2 H10
            have E := HE2.out.later hb4
            have h1 := below_step H2.out hb4
            clear hb4 HE2 H2
            obtain ⟨c0, c1, c2, g0, g1, g2⟩ := id E
            go_wp2_with fail
            refine (H6' _).out.mono ?_
            rintro r w5 ⟨rfl, hb5⟩
            clear c0 c1 c2 g0 g1 g2 H6'
            replace E := E.later hb5
            replace h1 := below_step h1 hb5
            have HE := Lib.hid E; have H1 := Lib.hid h1; clear hb5 E h1
            go_wp2
            go_roundw
            case rel => exact ⟨k + 1, by omega, by go_num, by rw [HTS.out]; congr 1; omega, by rw [HF.out]; exact HE, H1⟩
            case measure => simp [intOf]; omega
    · have hkn : k = l.length := by have := hl.out; omega
      have hkl : k = len := by omega
      have hful : l.take k = l := List.take_of_length_le (by omega)
      rw [hful] at hE hgood ⊢
      clear hful hkn hk
      obtain ⟨gt, glo, ghi, gseen⟩ := hgood.out
      clear hgood
      have hT := topA_lt l h16.out 0 (by omega)
      generalize foldW l = s at *
      obtain ⟨t, p, q⟩ := s
      simp only at gt glo ghi gseen hE
      subst gt
      generalize topA 0 l = T at *
      have GLO := Lib.hid glo; have GHI := Lib.hid ghi; have GS := Lib.hid gseen; have HT := Lib.hid hT
      clear glo ghi gseen hT
      have H10 : Hid (∀ (n : Int) (W : World), 1 ≤ n → n ≤ 1073741824 → Calls Try.prog 10 #[.agg #[.int .i64 (T : Int), .int .u64 (p : Int), .int .u64 (q : Int)], .int .i64 n] W fun r w' => r = .returned (.bool (amongA n 0 l && decide ((T : Int) - n < 128))) ∧ Below W.heap.size W w') := fun n W n1 n2 => by
        have := seen10 (T : Int) p q n W GLO GHI
        rw [GS.out n n1 n2] at this
        exact this
      obtain ⟨c0, c1, c2, -, -, -⟩ := id hE.out
      have hw140 : IntKind.i64.wrap ((T : Int) - 140) = (T : Int) - 140 := by have := HT.out; rw [IntKind.wrap_i64]; omega
      subst hkl
      go_wp2
      clear c0 c1 c2 hw140
      all_goals
        go_loopw [9] (fun v wr => ∃ j : Int, v = .int .i64 j ∧ 1 ≤ j ∧ j ≤ (T : Int) + 1 ∧ Hid (Cell3 wr g (.int .i64 (T : Int)) (.int .u64 (p : Int)) (.int .u64 (q : Int))) ∧ Hid (Below w.heap.size w wr)) (fun v _ => ((T : Int) + 1 - intOf v).toNat)
        case atStart => exact ⟨_, rfl, by omega, by omega, hE, hbel⟩
        case round =>
          clear hE hbel
          obtain ⟨j, rfl, j1, j2, hE, hbel⟩ := hrel
          have hTT := HT.out
          by_cases hj : j ≤ (T : Int)
          · have hj2 : decide (j ≤ (T : Int)) = true := decide_eq_true hj
            obtain ⟨d, hd⟩ : ∃ d : Int, (T : Int) - j = d := ⟨_, rfl⟩
            have hw : IntKind.i64.wrap ((T : Int) - j) = d := by rw [IntKind.wrap_i64]; omega
            have hwj : IntKind.i64.wrap (j + 1) = j + 1 := by rw [IntKind.wrap_i64]; omega
            have K10 := fun W => Lib.hid (H10.out j W j1 (by omega))
            have KA := fun W (hW : Below w.heap.size w W) => Lib.hid (among13 oa c k l j W hl (hc.out.below hW (Nat.le_refl _)) h16 ⟨j1, by omega⟩ hsm)
            rw [hd] at K10
            have HJ := Lib.hid (And.intro j1 (And.intro j2 hj)); have HD := Lib.hid hd; clear hd j1 j2 hj hTT
            generalize amongA j 0 l = a at *
            have E := hE.out
            obtain ⟨c0, c1, c2, -, -, -⟩ := id E
            go_wp2_with fail
            refine (K10 _).out.mono ?_
            rintro r w2 ⟨rfl, hb2⟩
            clear c0 c1 c2 K10
            replace E := Lib.hid (E.later hb2)
            have h1 := Lib.hid (below_step hbel.out hb2)
            clear hb2 hE hbel
            go_wp2_with fail
            refine (KA _ h1.out).out.mono ?_
            rintro r w3 ⟨rfl, rfl⟩
            clear KA
            cases a with
            | true =>
              cases h2 : decide (d < 128) with
              | true =>
                go_wp2
                go_roundw
                case rel => exact ⟨j + 1, by first | rfl | go_num, by have := HJ.out; omega, by have := HJ.out; omega, E, h1⟩
                case measure => have := HJ.out; simp [intOf]; omega
              | false =>
                go_wp2
                go_roundw
                case rel => exact ⟨j + 1, by first | rfl | go_num, by have := HJ.out; omega, by have := HJ.out; omega, E, h1⟩
                case measure => have := HJ.out; simp [intOf]; omega
            | false =>
              go_wp2
              go_roundw
              case rel => exact ⟨j + 1, by first | rfl | go_num, by have := HJ.out; omega, by have := HJ.out; omega, E, h1⟩
              case measure => have := HJ.out; simp [intOf]; omega
          · have hj2 : decide (j ≤ (T : Int)) = false := decide_eq_false hj
            go_wp2
            go_ret
            exact ⟨rfl, hbel.out⟩
end Go.Proofs.Ytbkgjijhjlcojaa
