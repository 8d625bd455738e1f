/-
  Walks of the document's answer: tags.
-/
import Derived.Test.YtlheepcojeaeaaaXg
namespace Go.Proofs.Ytlheepcojeaeaaa
open Go.RowKit Go.Proofs.Ytlheepcojeaeaaa.PlanB Go.Proofs.Ytlheepcojeaeaaa.Eager
set_option maxHeartbeats 1000000
set_option maxRecDepth 4000
set_option linter.unusedVariables false
set_option linter.unusedSimpArgs false

theorem digits_one (p : List UInt8) (h : p.length ≤ 16) : (digitsR p).set p.length 1 = digitsR (p ++ [1]) := by
  apply List.ext_getElem
  · simp [digitsR]
  · intro i h1 h2
    have hi : i < 17 := by simpa [digitsR] using h2
    simp only [digitsR, List.getElem_set, List.getElem_map, List.getElem_range, List.getD_eq_getElem?_getD]
    by_cases e : p.length = i
    · subst e; simp
    · rw [if_neg e]
      by_cases e2 : i < p.length
      · rw [List.getElem?_append_left e2]
      · rw [List.getElem?_append_right (by omega), List.getElem?_eq_none (by omega), List.getElem?_eq_none (by simp; omega)]
theorem add_turn (p : List UInt8) (n : List Nat) : turnTo (fun i => IV ((digitsR (p ++ [1])).getD i 0 + n.getD i 0)) (fun i => IV ((digitsR (p ++ [1])).getD i 0)) 17 17 = (addR p n).map IV := by
  rw [turnTo_full]; unfold addR; rw [List.map_map]; rfl
theorem digits_turn (f : Nat → Value) (p : List UInt8) : (digitsR p).map IV = turnTo f (fun i => IV ((digitsR p).getD i 0)) 0 17 := by
  rw [turnTo_zero]
  apply List.ext_getElem
  · simp [digitsR]
  · intro i h1 h2
    have hi : i < 17 := by simpa using h2
    simp [digitsR, List.getD_eq_getElem?_getD, List.getElem?_range hi]
theorem byte_of (z : Nat) : By (UInt8.ofNat (z % 256)) = .int .u8 ((z : Int) % 256) := by
  unfold By
  rw [UInt8.toNat_ofNat']
  congr 1
  omega

theorem tag8_bad (key : List UInt8) (vm : Value) (w : World) (ok : Option Addr) (n c : Nat) (hk : Reads w ok n key) (hl : ¬ key.length = 32) :
    Calls Try.prog 8 #[.slice ok n c, vm] w fun r w' => r = .returned (.tuple #[.slice none 0 0, .int .i64 2]) ∧ w' = w := by
  obtain rfl : n = key.length := hk.len
  have hl' : ¬ (key.length : Int) = 32 := by omega
  clear hk
  go_enter Try.func8, Try.ntmps8
  go_wp2
  refine bodyPost_ret (v := .tuple #[.slice none 0 0, .int .i64 2]) (by simp [results, Try.results8, go_sem]) rfl ⟨rfl, rfl⟩

theorem tag8 (key msg : List UInt8) (w : World) (ok om : Option Addr) (nk ck nm cm : Nat) (hk : Reads w ok nk key) (hm : Reads w om nm msg) (hl : key.length = 32) (hck : nk ≤ ck) (hckm : ck ≤ maxLen) (hcm : nm ≤ cm) (hcmm : cm ≤ maxLen) (hmx : msg.length ≤ 1000000) :
    Calls Try.prog 8 #[.slice ok nk ck, .slice om nm cm] w (TagOut w (tagM key msg)) := by
  rw [← tag_ref key msg hl]
  obtain rfl : nk = 32 := hk.len.trans hl
  obtain rfl : nm = msg.length := hm.len
  have HK := Lib.hid hk; have HM := Lib.hid hm; have HL := Lib.hid hl; have HCM := Lib.hid hcmm; have HCK := Lib.hid hckm
  clear hk hm hl hcmm hckm
  have HT : Hid (tagR key msg = (List.range 16).map fun i => UInt8.ofNat ((cOver (sumS (leastR (leastR (hornR (digitsR (clampM key)) msg ((msg.length + 15) / 16)))) key) i + (sumS (leastR (leastR (hornR (digitsR (clampM key)) msg ((msg.length + 15) / 16)))) key).getD i 0) % 256)) := rfl
  have HNU : Hid (∀ k, Num (hornR (digitsR (clampM key)) msg k)) := fun k => (horn_ref (clampM key) (by simp [clampM]) msg k).1
  have HRL : Hid ((digitsR (clampM key)).length = 17) := by show _ = _; simp [digitsR]
  have HRD : Hid (∀ i, (digitsR (clampM key)).getD i 0 < 256) := digits_lt _
  have hmk : ∀ W : World, (Instr.makeSlice 42 (.int .i64 17) (.int .i64 17)).run Try.prog W = .ok (.slice (some ⟨W.heap.size, 0, none⟩) 17 17) (W.alloc (.cells (zI 17).toArray 3)) := mkI 17 (by omega)
  have HMK := Lib.hid hmk
  clear hmk
  go_enter Try.func8, Try.ntmps8
  go_wp2_with fail
  refine (refClamp12 key w ok 32 ck HK.out (by rw [HL.out]; omega) hck HCK.out).mono ?_
  rintro r w1 ⟨oc, cc, rfl, hcc, hb1⟩
  have HCC := Lib.hid hcc; have HB1 := Lib.hid hb1
  clear hcc hb1
  go_wp2_with fail
  refine (digits20 (clampM key) w1 oc _ cc ⟨by simp, HCC.out⟩ (by simp [clampM])).mono ?_
  rintro r w2 ⟨g6, rfl, hg6, hblk, hb2⟩
  have HB2 := Lib.hid (below_step HB1.out hb2)
  rw [HRL.out]
  have HR := Lib.hid hblk.cells
  have hmk := HMK.out
  clear hblk hb2 hg6 HCC HB1
  generalize digitsR (clampM key) = R at *
  go_wp2_with fail
  clear hmk
  go_loopw [7, 8] (fun v i wr => ∃ k : Nat, k ≤ (msg.length + 15) / 16 ∧ i = .int .i64 (16 * k : Nat) ∧ (∃ on cn, v = .slice on 17 cn ∧ Hid (Cells wr on ((hornR R msg k).map IV))) ∧ Hid (Cells wr (some ⟨g6, 0, none⟩) (R.map IV)) ∧ Hid (Below w.heap.size w wr)) (fun _ i _ => msg.length + 16 - (intOf i).toNat)
  case atStart =>
    have hb2 := HB2.out; have hsz := hb2.size
    refine ⟨0, by omega, rfl, ⟨some ⟨w2.heap.size, 0, none⟩, 17, rfl, ?_⟩, Lib.hid (HR.out.alloc _), by (with_reducible try refine Lib.hid ?_); (repeat (with_reducible first | assumption | exact Below.refl _ _ | apply Below.drew | apply Below.drewN' | apply Below.setCell | apply Below.alloc)) <;> (try simp [length_fillTo, length_turnTo]) <;> (try omega)⟩
    exact Lib.hid (Cells.new (cs := zI 17))
  case round =>
    obtain ⟨k, hk, rfl, ⟨on, cn, rfl, hN⟩, hRw, hbel⟩ := hrel
    by_cases hlt : 16 * k < msg.length
    · have hlt' : ((16 * k : Nat) : Int) < (msg.length : Int) := by omega
      have HI : Hid (hornR R msg (k + 1) = timesR (addR (partM msg k) (hornR R msg k)) R) := rfl
      have HNK : Hid (Num (hornR R msg k)) := HNU.out k
      have HNK1 : Hid (Num (hornR R msg (k + 1))) := HNU.out (k + 1)
      generalize hornR R msg k = n at *
      obtain ⟨p, hp⟩ : ∃ p, 16 * k = p := ⟨_, rfl⟩
      have hpl : (partM msg k).length = min 16 (msg.length - p) := by rw [← hp]; simp [partM]
      obtain ⟨b, o, rfl, hbo, -⟩ := HM.out.cells.bytes (i := p) (by omega)
      have HP : Hid (Cells w (some ⟨b, o + p, none⟩) ((partM msg k).map By)) := by
        rw [← hp]
        have := ((HM.out.cells).drop (16 * k)).take 16
        rw [← List.map_drop, ← List.map_take] at this
        exact this
      obtain ⟨M, hM⟩ : ∃ M, (partM msg k).length = M := ⟨_, rfl⟩
      rw [hM] at hpl
      rw [hp] at hlt hlt'
      have HPE : Hid (16 * k = p ∧ p < msg.length ∧ p ≤ 1000000) := ⟨hp, hlt, by omega⟩
      have HMM : Hid ((partM msg k).length = M ∧ M ≤ 16) := ⟨hM, by omega⟩
      rw [hp]
      have hpc : ¬ cm = p := by omega
      have hpc' : (p : Int) ≤ (msg.length : Int) := by omega
      have HN := hN; have HRW := hRw; have HBE := hbel
      clear hN hRw hbel
      by_cases he : p + 16 ≤ msg.length
      · obtain ⟨e, hee⟩ : ∃ e, p + 16 = e := ⟨_, rfl⟩
        have r0 : IntKind.i64.wrap ((p : Int) + 16) = (e : Int) := by rw [IntKind.wrap_i64]; omega
        have r1 : ¬ (msg.length : Int) < (e : Int) := by omega
        have r1' : (e : Int) ≤ (msg.length : Int) := by omega
        have r2 : e - p = M := by omega
        have r3 : (e : Int) ≤ (cm : Int) := by omega
        have r4 : (p : Int) ≤ (e : Int) := by omega
        have r5 : IntKind.i64.wrap ((e : Int) - (p : Int)) = (M : Int) := by rw [IntKind.wrap_i64]; omega
        have hM17 : (M : Int) < 17 := by omega
        clear hp hM hpl hee he hk hlt
        obtain ⟨WO, rfl⟩ : ∃ x, x = wr := ⟨_, rfl⟩
        go_wp2_with fail
        refine (digits20 (partM msg k) WO (some ⟨b, o + p, none⟩) M (cm - p) ⟨HMM.out.1.symm, HP.out.below HBE.out (Nat.le_refl _)⟩ (by rw [HMM.out.1]; exact Nat.le_succ_of_le HMM.out.2)).mono ?_
        rintro r w3 ⟨g2, rfl, hg2, hblk, hb3⟩
        have hdl : (digitsR (partM msg k)).length = 17 := by simp [digitsR]
        rw [hdl]
        have HB3 := Lib.hid (below_step HBE.out hb3)
        have HN3 := Lib.hid (HN.out.below hb3 (Nat.le_refl _)); have HR3 := Lib.hid (HRW.out.below hb3 (Nat.le_refl _))
        have HG := Lib.hid hblk; have HGE : Hid (WO.heap.size ≤ g2) := hg2
        have HB3' := Lib.hid hb3
        have hgl := hblk.lt; have cz := hblk.froz
        have cM : w3.cell? ⟨g2, M, none⟩ = some (((digitsR (partM msg k)).map IV)[M]'(by have := HMM.out.2; simp [digitsR]; omega)) := hblk.at' M _
        clear hblk hb3 hg2 hdl
        go_wp2_with fail
        have hG2 : Blk (w3.setCell ⟨g2, M, none⟩ (IV 1)) g2 ((digitsR (partM msg k ++ [1])).map IV) := by
          rw [← digits_one _ (by rw [HMM.out.1]; exact HMM.out.2), ← map_set, HMM.out.1]
          exact HG.out.set M (by have := HMM.out.2; simp [digitsR]; omega) _
        have hbS : Below WO.heap.size WO (w3.setCell ⟨g2, M, none⟩ (IV 1)) := HB3'.out.setCell HGE.out _
        change Blk (w3.setCell ⟨g2, M, none⟩ (.int .i64 1)) _ _ at hG2
        change Below _ _ (w3.setCell ⟨g2, M, none⟩ (.int .i64 1)) at hbS
        have HG2 := Lib.hid hG2; have HBS := Lib.hid hbS
        clear hG2 hbS cM hgl cz HG HB3 HB3' HN3 HR3
        generalize w3.setCell ⟨g2, M, none⟩ (.int .i64 1) = W4 at *
        go_loopw [11] (fun u WR1 => ∃ i : Nat, i ≤ 17 ∧ u = .int .i64 i ∧ Hid (Blk WR1 g2 (turnTo (fun i => IV ((digitsR (partM msg k ++ [1])).getD i 0 + n.getD i 0)) (fun i => IV ((digitsR (partM msg k ++ [1])).getD i 0)) i 17)) ∧ Hid (Below WO.heap.size WO WR1)) (fun u _ => 17 - (intOf u).toNat)
        case atStart => exact ⟨0, by omega, rfl, Lib.hid (HG2.out.cast (digits_turn _ _)), HBS⟩
        case round =>
          obtain ⟨i, hi, rfl, hO, hbel⟩ := hrel
          by_cases hli : i < 17
          · have hi5 : (i : Int) < 17 := by omega
            have ri : IntKind.i64.wrap ((i : Int) + 1) = ((i + 1 : Nat) : Int) := by rw [IntKind.wrap_i64]; omega
            have hc0 := hO.out.at' i (by rw [length_turnTo]; exact hli)
            rw [turnTo_get _ _ _ _ _ hli, if_neg (by omega)] at hc0
            obtain ⟨b1, o1, rfl, hb1, hc1⟩ := (HN.out.below hbel.out (Nat.le_refl _)).num (i := i) (by rw [HNK.out.len]; exact hli)
            have hxl := HNK.out.dig i
            have hyl := digits_lt (partM msg k ++ [1]) i
            obtain ⟨x, hx⟩ : ∃ x, n.getD i 0 = x := ⟨_, rfl⟩
            obtain ⟨y, hy⟩ : ∃ y, (digitsR (partM msg k ++ [1])).getD i 0 = y := ⟨_, rfl⟩
            rw [hx] at hc1 hxl; rw [hy] at hc0 hyl
            unfold IV at hc0
            have r6 : IntKind.i64.wrap ((y : Int) + (x : Int)) = ((y + x : Nat) : Int) := by rw [IntKind.wrap_i64]; omega
            have HZ : Hid (y + x = (digitsR (partM msg k ++ [1])).getD i 0 + n.getD i 0) := by show _ = _; rw [hx, hy]
            obtain ⟨z, hz⟩ : ∃ z, y + x = z := ⟨_, rfl⟩
            rw [hz] at r6 HZ
            have HIL := Lib.hid hli
            have HC0 := Lib.hid hc0; have HC1 := Lib.hid hc1
            have HOO := hO; have HBO := hbel
            clear hx hy hz hxl hyl hli hc0 hc1 hO hbel
            go_wp2_with fail
            refine wp_region_plan none [12] [] (.take 0 (.take 1 (.take 2 (.take 3 (.take 4 (.take 5 (.take 6 (.take 7 (.take 8 (.take 9 (.take 10 (.take 11 (.tail [12]))))))))))))) (by kernel_rfl) (by kernel_rfl) (fun _ _ dd _ _ h => by cases dd <;> exact h) ?_
            intro W0 hW0
            have hbW : Below WO.heap.size WO W0 := by rw [hW0]; exact HBO.out.drew
            have hOW := HOO.out.drew
            rw [← hW0] at hOW
            have hl1 : b1 < W0.heap.size := by rw [hW0]; exact hb1
            have hC0 : W0.cell? ⟨g2, i, none⟩ = some (.int .i64 (y : Int)) := by rw [hW0]; exact HC0.out
            have hC1 : W0.cell? ⟨b1, o1 + i, none⟩ = some (.int .i64 (x : Int)) := by rw [hW0]; exact HC1.out
            clear hW0
            (refine pl_take (d := 50) (v := ?_) rfl rfl rfl ?_ ?_; rotate_left; (focus ((intro w' hb0 hw'; go_simp) <;> with_reducible rfl)); simp only [Act.put, List.setIfInBounds_toArray, List.set_cons_zero, List.set_cons_succ])
            (refine pl_take (d := 51) (v := ?_) rfl rfl rfl ?_ ?_; rotate_left; (focus ((intro w' hb0 hw'; go_simp) <;> with_reducible rfl)); simp only [Act.put, List.setIfInBounds_toArray, List.set_cons_zero, List.set_cons_succ])
            (refine pl_take (d := 52) (v := ?_) rfl rfl rfl ?_ ?_; rotate_left; (focus ((intro w' hb0 hw'; go_simp) <;> with_reducible rfl)); simp only [Act.put, List.setIfInBounds_toArray, List.set_cons_zero, List.set_cons_succ])
            (refine pl_take (d := 53) (v := ?_) rfl rfl rfl ?_ ?_; rotate_left; (focus ((intro w' hb0 hw'; go_simp) <;> with_reducible rfl)); simp only [Act.put, List.setIfInBounds_toArray, List.set_cons_zero, List.set_cons_succ])
            (refine pl_take (d := 54) (v := ?_) rfl rfl rfl ?_ ?_; rotate_left; (focus ((intro w' hb0 hw'; go_simp) <;> with_reducible rfl)); simp only [Act.put, List.setIfInBounds_toArray, List.set_cons_zero, List.set_cons_succ])
            (refine pl_take (d := 55) (v := ?_) rfl rfl rfl ?_ ?_; rotate_left; (focus ((intro w' hb0 hw'; have q0 : w'.cell? ⟨g2, i, none⟩ = some (.int .i64 (y : Int)) := (hw'.cell (p := ⟨g2, i, none⟩) hOW.lt).trans hC0; go_simp) <;> with_reducible rfl)); simp only [Act.put, List.setIfInBounds_toArray, List.set_cons_zero, List.set_cons_succ])
            (refine pl_take (d := 56) (v := ?_) rfl rfl rfl ?_ ?_; rotate_left; (focus ((intro w' hb0 hw'; go_simp) <;> with_reducible rfl)); simp only [Act.put, List.setIfInBounds_toArray, List.set_cons_zero, List.set_cons_succ])
            (refine pl_take (d := 57) (v := ?_) rfl rfl rfl ?_ ?_; rotate_left; (focus ((intro w' hb0 hw'; go_simp) <;> with_reducible rfl)); simp only [Act.put, List.setIfInBounds_toArray, List.set_cons_zero, List.set_cons_succ])
            (refine pl_take (d := 58) (v := ?_) rfl rfl rfl ?_ ?_; rotate_left; (focus ((intro w' hb0 hw'; go_simp) <;> with_reducible rfl)); simp only [Act.put, List.setIfInBounds_toArray, List.set_cons_zero, List.set_cons_succ])
            (refine pl_take (d := 59) (v := ?_) rfl rfl rfl ?_ ?_; rotate_left; (focus ((intro w' hb0 hw'; have q1 : w'.cell? ⟨b1, o1 + i, none⟩ = some (.int .i64 (x : Int)) := (hw'.cell (p := ⟨b1, o1 + i, none⟩) hl1).trans hC1; go_simp) <;> with_reducible rfl)); simp only [Act.put, List.setIfInBounds_toArray, List.set_cons_zero, List.set_cons_succ])
            (refine pl_take (d := 60) (v := ?_) rfl rfl rfl ?_ ?_; rotate_left; (focus ((intro w' hb0 hw'; go_simp) <;> with_reducible rfl)); simp only [Act.put, List.setIfInBounds_toArray, List.set_cons_zero, List.set_cons_succ])
            (refine pl_take (d := 61) (v := ?_) rfl rfl rfl ?_ ?_; rotate_left; (focus ((intro w' hb0 hw'; go_simp) <;> with_reducible rfl)); simp only [Act.put, List.setIfInBounds_toArray, List.set_cons_zero, List.set_cons_succ])
            refine pl_tail ?_
            refine tl_do rfl rfl (fun K hK => ?_)
            have cz := hOW.froz
            have q0 := hC0
            go_simp
            refine hK _ _ ?_
            clear hK cz q0
            have hOF := hOW.set i (by rw [length_turnTo]; exact HIL.out) (.int .i64 (z : Int))
            have hbF := hbW.setCell (p := ⟨g2, i, none⟩) HGE.out (.int .i64 (z : Int))
            generalize W0.setCell ⟨g2, i, none⟩ (.int .i64 (z : Int)) = WF at *
            (try simp only [Act.put, List.setIfInBounds_toArray, List.set_cons_zero, List.set_cons_succ])
            refine tl_end ?_
            go_wp2_with fail
            go_roundw
            case measure => have := HIL.out; simp [intOf]; omega
            case rel =>
              have h1 := HIL.out
              refine ⟨i + 1, by omega, rfl, Lib.hid ?_, Lib.hid hbF⟩
              rw [← turnTo_set, ← HZ.out]; exact hOF
          · obtain rfl : i = 17 := by omega
            have hGA : Blk wr g2 ((addR (partM msg k) n).map IV) := hO.out.cast (add_turn _ _)
            have HCT := times21 (addR (partM msg k) n) R wr (some ⟨g2, 0, none⟩) (some ⟨g6, 0, none⟩) 17 17 hGA.cells (HRW.out.below hbel.out (Nat.le_refl _)) (by simp [addR]) HRL.out (by
              intro i
              rw [add_at]
              have h1 := digits_lt (partM msg k ++ [1]) i; have h2 := HNK.out.dig i
              split <;> omega) HRD.out
            have HB5 := Lib.hid (below_step HBE.out hbel.out)
            have HR5 := Lib.hid (HRW.out.below hbel.out (Nat.le_refl _))
            clear hGA hO hbel
            go_wp2_with fail
            refine HCT.mono ?_
            rintro r w6 ⟨o6, c6, rfl, hc6, hb6⟩
            rw [← HI.out] at hc6 ⊢
            rw [HNK1.out.len]
            have HC6 := Lib.hid hc6; have HB6 := Lib.hid (below_step HB5.out hb6); have HR6 := Lib.hid (HR5.out.below hb6 (Nat.le_refl _))
            have rp : IntKind.i64.wrap ((p : Int) + 16) = ((p + 16 : Nat) : Int) := by have := HPE.out.2.2; rw [IntKind.wrap_i64]; omega
            clear HCT hc6 hb6 r0
            go_wp2_with fail
            go_roundw
            case measure => have h1 := HPE.out.2.1; simp [intOf]; omega
            case rel => exact ⟨k + 1, by have := HPE.out; omega, by have := HPE.out.1; (congr 1; omega), ⟨o6, c6, rfl, HC6⟩, HR6, HB6⟩
      · obtain ⟨f, hff⟩ : ∃ f, p + 16 = f := ⟨_, rfl⟩
        have r0 : IntKind.i64.wrap ((p : Int) + 16) = (f : Int) := by rw [IntKind.wrap_i64]; omega
        have r1 : (msg.length : Int) < (f : Int) := by omega
        have r2 : msg.length - p = M := by omega
        have r3 : (msg.length : Int) ≤ (cm : Int) := by omega
        have r5 : IntKind.i64.wrap ((msg.length : Int) - (p : Int)) = (M : Int) := by rw [IntKind.wrap_i64]; omega
        have hM17 : (M : Int) < 17 := by omega
        clear hp hM hpl hff he hk hlt
        obtain ⟨WO, rfl⟩ : ∃ x, x = wr := ⟨_, rfl⟩
        go_wp2_with fail
        refine (digits20 (partM msg k) WO (some ⟨b, o + p, none⟩) M (cm - p) ⟨HMM.out.1.symm, HP.out.below HBE.out (Nat.le_refl _)⟩ (by rw [HMM.out.1]; exact Nat.le_succ_of_le HMM.out.2)).mono ?_
        rintro r w3 ⟨g2, rfl, hg2, hblk, hb3⟩
        have hdl : (digitsR (partM msg k)).length = 17 := by simp [digitsR]
        rw [hdl]
        have HB3 := Lib.hid (below_step HBE.out hb3)
        have HN3 := Lib.hid (HN.out.below hb3 (Nat.le_refl _)); have HR3 := Lib.hid (HRW.out.below hb3 (Nat.le_refl _))
        have HG := Lib.hid hblk; have HGE : Hid (WO.heap.size ≤ g2) := hg2
        have HB3' := Lib.hid hb3
        have hgl := hblk.lt; have cz := hblk.froz
        have cM : w3.cell? ⟨g2, M, none⟩ = some (((digitsR (partM msg k)).map IV)[M]'(by have := HMM.out.2; simp [digitsR]; omega)) := hblk.at' M _
        clear hblk hb3 hg2 hdl
        go_wp2_with fail
        have hG2 : Blk (w3.setCell ⟨g2, M, none⟩ (IV 1)) g2 ((digitsR (partM msg k ++ [1])).map IV) := by
          rw [← digits_one _ (by rw [HMM.out.1]; exact HMM.out.2), ← map_set, HMM.out.1]
          exact HG.out.set M (by have := HMM.out.2; simp [digitsR]; omega) _
        have hbS : Below WO.heap.size WO (w3.setCell ⟨g2, M, none⟩ (IV 1)) := HB3'.out.setCell HGE.out _
        change Blk (w3.setCell ⟨g2, M, none⟩ (.int .i64 1)) _ _ at hG2
        change Below _ _ (w3.setCell ⟨g2, M, none⟩ (.int .i64 1)) at hbS
        have HG2 := Lib.hid hG2; have HBS := Lib.hid hbS
        clear hG2 hbS cM hgl cz HG HB3 HB3' HN3 HR3
        generalize w3.setCell ⟨g2, M, none⟩ (.int .i64 1) = W4 at *
        go_loopw [11] (fun u WR1 => ∃ i : Nat, i ≤ 17 ∧ u = .int .i64 i ∧ Hid (Blk WR1 g2 (turnTo (fun i => IV ((digitsR (partM msg k ++ [1])).getD i 0 + n.getD i 0)) (fun i => IV ((digitsR (partM msg k ++ [1])).getD i 0)) i 17)) ∧ Hid (Below WO.heap.size WO WR1)) (fun u _ => 17 - (intOf u).toNat)
        case atStart => exact ⟨0, by omega, rfl, Lib.hid (HG2.out.cast (digits_turn _ _)), HBS⟩
        case round =>
          obtain ⟨i, hi, rfl, hO, hbel⟩ := hrel
          by_cases hli : i < 17
          · have hi5 : (i : Int) < 17 := by omega
            have ri : IntKind.i64.wrap ((i : Int) + 1) = ((i + 1 : Nat) : Int) := by rw [IntKind.wrap_i64]; omega
            have hc0 := hO.out.at' i (by rw [length_turnTo]; exact hli)
            rw [turnTo_get _ _ _ _ _ hli, if_neg (by omega)] at hc0
            obtain ⟨b1, o1, rfl, hb1, hc1⟩ := (HN.out.below hbel.out (Nat.le_refl _)).num (i := i) (by rw [HNK.out.len]; exact hli)
            have hxl := HNK.out.dig i
            have hyl := digits_lt (partM msg k ++ [1]) i
            obtain ⟨x, hx⟩ : ∃ x, n.getD i 0 = x := ⟨_, rfl⟩
            obtain ⟨y, hy⟩ : ∃ y, (digitsR (partM msg k ++ [1])).getD i 0 = y := ⟨_, rfl⟩
            rw [hx] at hc1 hxl; rw [hy] at hc0 hyl
            unfold IV at hc0
            have r6 : IntKind.i64.wrap ((y : Int) + (x : Int)) = ((y + x : Nat) : Int) := by rw [IntKind.wrap_i64]; omega
            have HZ : Hid (y + x = (digitsR (partM msg k ++ [1])).getD i 0 + n.getD i 0) := by show _ = _; rw [hx, hy]
            obtain ⟨z, hz⟩ : ∃ z, y + x = z := ⟨_, rfl⟩
            rw [hz] at r6 HZ
            have HIL := Lib.hid hli
            have HC0 := Lib.hid hc0; have HC1 := Lib.hid hc1
            have HOO := hO; have HBO := hbel
            clear hx hy hz hxl hyl hli hc0 hc1 hO hbel
            go_wp2_with fail
            refine wp_region_plan none [12] [] (.take 0 (.take 1 (.take 2 (.take 3 (.take 4 (.take 5 (.take 6 (.take 7 (.take 8 (.take 9 (.take 10 (.take 11 (.tail [12]))))))))))))) (by kernel_rfl) (by kernel_rfl) (fun _ _ dd _ _ h => by cases dd <;> exact h) ?_
            intro W0 hW0
            have hbW : Below WO.heap.size WO W0 := by rw [hW0]; exact HBO.out.drew
            have hOW := HOO.out.drew
            rw [← hW0] at hOW
            have hl1 : b1 < W0.heap.size := by rw [hW0]; exact hb1
            have hC0 : W0.cell? ⟨g2, i, none⟩ = some (.int .i64 (y : Int)) := by rw [hW0]; exact HC0.out
            have hC1 : W0.cell? ⟨b1, o1 + i, none⟩ = some (.int .i64 (x : Int)) := by rw [hW0]; exact HC1.out
            clear hW0
            (refine pl_take (d := 50) (v := ?_) rfl rfl rfl ?_ ?_; rotate_left; (focus ((intro w' hb0 hw'; go_simp) <;> with_reducible rfl)); simp only [Act.put, List.setIfInBounds_toArray, List.set_cons_zero, List.set_cons_succ])
            (refine pl_take (d := 51) (v := ?_) rfl rfl rfl ?_ ?_; rotate_left; (focus ((intro w' hb0 hw'; go_simp) <;> with_reducible rfl)); simp only [Act.put, List.setIfInBounds_toArray, List.set_cons_zero, List.set_cons_succ])
            (refine pl_take (d := 52) (v := ?_) rfl rfl rfl ?_ ?_; rotate_left; (focus ((intro w' hb0 hw'; go_simp) <;> with_reducible rfl)); simp only [Act.put, List.setIfInBounds_toArray, List.set_cons_zero, List.set_cons_succ])
            (refine pl_take (d := 53) (v := ?_) rfl rfl rfl ?_ ?_; rotate_left; (focus ((intro w' hb0 hw'; go_simp) <;> with_reducible rfl)); simp only [Act.put, List.setIfInBounds_toArray, List.set_cons_zero, List.set_cons_succ])
            (refine pl_take (d := 54) (v := ?_) rfl rfl rfl ?_ ?_; rotate_left; (focus ((intro w' hb0 hw'; go_simp) <;> with_reducible rfl)); simp only [Act.put, List.setIfInBounds_toArray, List.set_cons_zero, List.set_cons_succ])
            (refine pl_take (d := 55) (v := ?_) rfl rfl rfl ?_ ?_; rotate_left; (focus ((intro w' hb0 hw'; have q0 : w'.cell? ⟨g2, i, none⟩ = some (.int .i64 (y : Int)) := (hw'.cell (p := ⟨g2, i, none⟩) hOW.lt).trans hC0; go_simp) <;> with_reducible rfl)); simp only [Act.put, List.setIfInBounds_toArray, List.set_cons_zero, List.set_cons_succ])
            (refine pl_take (d := 56) (v := ?_) rfl rfl rfl ?_ ?_; rotate_left; (focus ((intro w' hb0 hw'; go_simp) <;> with_reducible rfl)); simp only [Act.put, List.setIfInBounds_toArray, List.set_cons_zero, List.set_cons_succ])
            (refine pl_take (d := 57) (v := ?_) rfl rfl rfl ?_ ?_; rotate_left; (focus ((intro w' hb0 hw'; go_simp) <;> with_reducible rfl)); simp only [Act.put, List.setIfInBounds_toArray, List.set_cons_zero, List.set_cons_succ])
            (refine pl_take (d := 58) (v := ?_) rfl rfl rfl ?_ ?_; rotate_left; (focus ((intro w' hb0 hw'; go_simp) <;> with_reducible rfl)); simp only [Act.put, List.setIfInBounds_toArray, List.set_cons_zero, List.set_cons_succ])
            (refine pl_take (d := 59) (v := ?_) rfl rfl rfl ?_ ?_; rotate_left; (focus ((intro w' hb0 hw'; have q1 : w'.cell? ⟨b1, o1 + i, none⟩ = some (.int .i64 (x : Int)) := (hw'.cell (p := ⟨b1, o1 + i, none⟩) hl1).trans hC1; go_simp) <;> with_reducible rfl)); simp only [Act.put, List.setIfInBounds_toArray, List.set_cons_zero, List.set_cons_succ])
            (refine pl_take (d := 60) (v := ?_) rfl rfl rfl ?_ ?_; rotate_left; (focus ((intro w' hb0 hw'; go_simp) <;> with_reducible rfl)); simp only [Act.put, List.setIfInBounds_toArray, List.set_cons_zero, List.set_cons_succ])
            (refine pl_take (d := 61) (v := ?_) rfl rfl rfl ?_ ?_; rotate_left; (focus ((intro w' hb0 hw'; go_simp) <;> with_reducible rfl)); simp only [Act.put, List.setIfInBounds_toArray, List.set_cons_zero, List.set_cons_succ])
            refine pl_tail ?_
            refine tl_do rfl rfl (fun K hK => ?_)
            have cz := hOW.froz
            have q0 := hC0
            go_simp
            refine hK _ _ ?_
            clear hK cz q0
            have hOF := hOW.set i (by rw [length_turnTo]; exact HIL.out) (.int .i64 (z : Int))
            have hbF := hbW.setCell (p := ⟨g2, i, none⟩) HGE.out (.int .i64 (z : Int))
            generalize W0.setCell ⟨g2, i, none⟩ (.int .i64 (z : Int)) = WF at *
            (try simp only [Act.put, List.setIfInBounds_toArray, List.set_cons_zero, List.set_cons_succ])
            refine tl_end ?_
            go_wp2_with fail
            go_roundw
            case measure => have := HIL.out; simp [intOf]; omega
            case rel =>
              have h1 := HIL.out
              refine ⟨i + 1, by omega, rfl, Lib.hid ?_, Lib.hid hbF⟩
              rw [← turnTo_set, ← HZ.out]; exact hOF
          · obtain rfl : i = 17 := by omega
            have hGA : Blk wr g2 ((addR (partM msg k) n).map IV) := hO.out.cast (add_turn _ _)
            have HCT := times21 (addR (partM msg k) n) R wr (some ⟨g2, 0, none⟩) (some ⟨g6, 0, none⟩) 17 17 hGA.cells (HRW.out.below hbel.out (Nat.le_refl _)) (by simp [addR]) HRL.out (by
              intro i
              rw [add_at]
              have h1 := digits_lt (partM msg k ++ [1]) i; have h2 := HNK.out.dig i
              split <;> omega) HRD.out
            have HB5 := Lib.hid (below_step HBE.out hbel.out)
            have HR5 := Lib.hid (HRW.out.below hbel.out (Nat.le_refl _))
            clear hGA hO hbel
            go_wp2_with fail
            refine HCT.mono ?_
            rintro r w6 ⟨o6, c6, rfl, hc6, hb6⟩
            rw [← HI.out] at hc6 ⊢
            rw [HNK1.out.len]
            have HC6 := Lib.hid hc6; have HB6 := Lib.hid (below_step HB5.out hb6); have HR6 := Lib.hid (HR5.out.below hb6 (Nat.le_refl _))
            have rp : IntKind.i64.wrap ((p : Int) + 16) = ((p + 16 : Nat) : Int) := by have := HPE.out.2.2; rw [IntKind.wrap_i64]; omega
            clear HCT hc6 hb6 r0
            go_wp2_with fail
            go_roundw
            case measure => have h1 := HPE.out.2.1; simp [intOf]; omega
            case rel => exact ⟨k + 1, by have := HPE.out; omega, by have := HPE.out.1; (congr 1; omega), ⟨o6, c6, rfl, HC6⟩, HR6, HB6⟩
    · have hk' : k = (msg.length + 15) / 16 := by omega
      subst hk'
      have hlt' : ¬ ((16 * ((msg.length + 15) / 16) : Nat) : Int) < (msg.length : Int) := by omega
      have HNK : Hid (Num (hornR R msg ((msg.length + 15) / 16))) := HNU.out _
      generalize hornR R msg ((msg.length + 15) / 16) = n at *
      obtain ⟨p, hp⟩ : ∃ p, 16 * ((msg.length + 15) / 16) = p := ⟨_, rfl⟩
      rw [hp] at hlt' ⊢
      have HC := least22 n wr on cn hN.out HNK.out.len HNK.out.dig
      have HL1 := Lib.hid (least_ref n HNK.out).1
      have HBE := hbel
      clear hp hlt hk hN hRw hbel
      go_wp2_with fail
      refine HC.mono ?_
      rintro r w3 ⟨o3, c3, rfl, hc3, hb3⟩
      have HC3 := Lib.hid hc3; have HB3 := Lib.hid (below_step HBE.out hb3)
      rw [HL1.out.len]
      clear hc3 hb3 HC HBE
      generalize leastR n = n1 at *
      have HC := least22 n1 w3 o3 c3 HC3.out HL1.out.len HL1.out.dig
      have HL2 := Lib.hid (least_ref n1 HL1.out).1
      go_wp2_with fail
      refine HC.mono ?_
      rintro r w4 ⟨o4, c4, rfl, hc4, hb4⟩
      have HC4 := Lib.hid hc4; have HB4 := Lib.hid (below_step HB3.out hb4)
      rw [HL2.out.len]
      clear hc4 hb4 HC HC3 HL1
      generalize leastR n1 = n2 at *
      have hmk := mk16
      have HSL : Hid (∀ i, (sumS n2 key).getD i 0 ≤ 600) := by
        show ∀ i, _
        intro i
        by_cases hi : i < 16
        · rw [sumS_at n2 key i hi]
          have h1 := HL2.out.dig i; have h2 := ((key.drop 16).getD i 0).toNat_lt
          omega
        · have : (sumS n2 key).length ≤ i := by simp [sumS]; omega
          rw [List.getD_eq_getElem?_getD, List.getElem?_eq_none this]; simp
      have HSA : Hid (∀ i, i < 16 → (sumS n2 key).getD i 0 = n2.getD i 0 + ((key.drop 16).getD i 0).toNat) := sumS_at n2 key
      generalize sumS n2 key = S at *
      go_wp2_with fail
      clear hmk
      go_loopw [13, 14] (fun v i wr => ∃ k : Nat, k ≤ 16 ∧ v = .int .i64 (cOver S k) ∧ i = .int .i64 k ∧ Hid (Blk wr w4.heap.size (fillTo (fun i => By (UInt8.ofNat ((cOver S i + S.getD i 0) % 256))) (By 0) k 16)) ∧ Hid (Below w4.heap.size w4 wr)) (fun _ i _ => 16 - (intOf i).toNat)
      case atStart =>
        refine ⟨0, by omega, rfl, rfl, ?_, Lib.hid ((Below.refl _ _).alloc (Nat.le_refl _) _)⟩
        exact Lib.hid (Blk.cast (by (with_reducible try refine Lib.hid ?_); (repeat (with_reducible first | assumption | (apply Blk.new' <;> (simp; done)) | apply Blk.drew | apply Blk.drewN | apply Blk.alloc | apply Blk.set | apply Blk.setOther)) <;> (try simp [length_fillTo, length_turnTo]) <;> (try omega)) (by rfl))
      case round =>
        obtain ⟨k, hk, rfl, rfl, hO, hbel4⟩ := hrel
        have hNC := Lib.hid (HC4.out.below hbel4.out (Nat.le_refl _))
        have hbel := Lib.hid (below_step HB4.out hbel4.out)
        by_cases hlk : k < 16
        · have hk5 : (k : Int) < 16 := by omega
          have rk : IntKind.i64.wrap ((k : Int) + 1) = ((k + 1 : Nat) : Int) := by rw [IntKind.wrap_i64]; omega
          have rk16 : IntKind.i64.wrap (16 + (k : Int)) = ((16 + k : Nat) : Int) := by rw [IntKind.wrap_i64]; omega
          obtain ⟨b1, o1, rfl, hb1, hc1⟩ := hNC.out.num (i := k) (by rw [HL2.out.len]; omega)
          obtain ⟨b2, o2, rfl, hb2, hc2⟩ := (HK.out.cells.below hbel.out (Nat.le_refl _)).bytes (i := 16 + k) (by rw [HL.out]; omega)
          have hov := cOver_le S 600 HSL.out k
          have hxl := HL2.out.dig k
          have HS1 : Hid (cOver S (k + 1) = (cOver S k + S.getD k 0) / 256) := rfl
          have hsk := HSA.out k hlk
          have hyk : ((key.drop 16).getD k 0).toNat = (key[16 + k]'(by rw [HL.out]; omega)).toNat := by
            rw [List.getD_eq_getElem?_getD, List.getElem?_drop, List.getElem?_eq_getElem (by rw [HL.out]; omega)]; rfl
          rw [hyk] at hsk
          have hyl := (key[16 + k]'(by rw [HL.out]; omega)).toNat_lt
          generalize (key[16 + k]'(by rw [HL.out]; omega)).toNat = y at *
          obtain ⟨x, hx⟩ : ∃ x, n2.getD k 0 = x := ⟨_, rfl⟩
          obtain ⟨q, hq⟩ : ∃ q, 16 + k = q := ⟨_, rfl⟩
          have HFV : Hid (By (UInt8.ofNat ((cOver S k + S.getD k 0) % 256)) = By (UInt8.ofNat ((cOver S k + S.getD k 0) % 256))) := rfl
          rw [hx] at hc1 hxl hsk
          rw [hq] at hc2 rk16
          obtain ⟨v, hv⟩ : ∃ v, cOver S k = v := ⟨_, rfl⟩
          obtain ⟨t, ht⟩ : ∃ t, S.getD k 0 = t := ⟨_, rfl⟩
          rw [ht] at hsk HS1
          rw [hv] at hov HS1
          have r6 : IntKind.i64.wrap ((v : Int) + (x : Int)) = ((v + x : Nat) : Int) := by rw [IntKind.wrap_i64]; omega
          obtain ⟨u, hu⟩ : ∃ u, v + x = u := ⟨_, rfl⟩
          rw [hu] at r6
          have r7 : IntKind.i64.wrap (y : Int) = (y : Int) := by rw [IntKind.wrap_i64]; omega
          have r8 : IntKind.i64.wrap ((u : Int) + (y : Int)) = ((u + y : Nat) : Int) := by rw [IntKind.wrap_i64]; omega
          obtain ⟨s, hs⟩ : ∃ s, u + y = s := ⟨_, rfl⟩
          rw [hs] at r8
          have HSS : Hid (v + t = s ∧ s < 2 ^ 60) := ⟨by omega, by omega⟩
          have hq32 : (q : Int) < 32 := by omega
          have hk17 : (k : Int) < 17 := by omega
          have HKK := Lib.hid hlk; have HV := Lib.hid hv; have HTT := Lib.hid ht
          have HC1 := Lib.hid hc1; have HC2 := Lib.hid hc2
          have HOO := hO; have HNC := hNC; have HBE2 := hbel4
          rw [hv]
          clear hov hxl hyl hx hq hv ht hu hs hsk hyk hlk hc1 hc2 hO hNC hbel hbel4 hk HFV
          go_wp2_with fail
          refine wp_region_plan none [] [] (.take 0 (.take 1 (.take 2 (.take 3 (.take 4 (.take 5 (.take 6 (.take 7 (.take 8 (.take 9 (.take 10 (.take 11 (.take 12 (.take 13 .done)))))))))))))) (by kernel_rfl) (by kernel_rfl) (fun _ _ dd _ _ h => by cases dd <;> exact h) ?_
          intro W0 hW0
          have hbW : Below w4.heap.size w4 W0 := by rw [hW0]; exact HBE2.out.drew
          have hOW := HOO.out.drew
          rw [← hW0] at hOW
          have hl1 : b1 < W0.heap.size := by rw [hW0]; exact hb1
          have hl2 : b2 < W0.heap.size := by rw [hW0]; exact hb2
          have hC1 : W0.cell? ⟨b1, o1 + k, none⟩ = some (.int .i64 (x : Int)) := by rw [hW0]; exact HC1.out
          have hC2 : W0.cell? ⟨b2, o2 + q, none⟩ = some (.int .u8 (y : Int)) := by rw [hW0]; exact HC2.out
          clear hW0
          (refine pl_take (d := 73) (v := ?_) rfl rfl rfl ?_ ?_; rotate_left; (focus ((intro w' hb0 hw'; go_simp) <;> with_reducible rfl)); simp only [Act.put, List.setIfInBounds_toArray, List.set_cons_zero, List.set_cons_succ])
          (refine pl_take (d := 74) (v := ?_) rfl rfl rfl ?_ ?_; rotate_left; (focus ((intro w' hb0 hw'; go_simp) <;> with_reducible rfl)); simp only [Act.put, List.setIfInBounds_toArray, List.set_cons_zero, List.set_cons_succ])
          (refine pl_take (d := 75) (v := ?_) rfl rfl rfl ?_ ?_; rotate_left; (focus ((intro w' hb0 hw'; go_simp) <;> with_reducible rfl)); simp only [Act.put, List.setIfInBounds_toArray, List.set_cons_zero, List.set_cons_succ])
          (refine pl_take (d := 76) (v := ?_) rfl rfl rfl ?_ ?_; rotate_left; (focus ((intro w' hb0 hw'; go_simp) <;> with_reducible rfl)); simp only [Act.put, List.setIfInBounds_toArray, List.set_cons_zero, List.set_cons_succ])
          (refine pl_take (d := 77) (v := ?_) rfl rfl rfl ?_ ?_; rotate_left; (focus ((intro w' hb0 hw'; have q1 : w'.cell? ⟨b1, o1 + k, none⟩ = some (.int .i64 (x : Int)) := (hw'.cell (p := ⟨b1, o1 + k, none⟩) hl1).trans hC1; go_simp) <;> with_reducible rfl)); simp only [Act.put, List.setIfInBounds_toArray, List.set_cons_zero, List.set_cons_succ])
          (refine pl_take (d := 78) (v := ?_) rfl rfl rfl ?_ ?_; rotate_left; (focus ((intro w' hb0 hw'; go_simp) <;> with_reducible rfl)); simp only [Act.put, List.setIfInBounds_toArray, List.set_cons_zero, List.set_cons_succ])
          (refine pl_take (d := 79) (v := ?_) rfl rfl rfl ?_ ?_; rotate_left; (focus ((intro w' hb0 hw'; go_simp) <;> with_reducible rfl)); simp only [Act.put, List.setIfInBounds_toArray, List.set_cons_zero, List.set_cons_succ])
          (refine pl_take (d := 80) (v := ?_) rfl rfl rfl ?_ ?_; rotate_left; (focus ((intro w' hb0 hw'; go_simp) <;> with_reducible rfl)); simp only [Act.put, List.setIfInBounds_toArray, List.set_cons_zero, List.set_cons_succ])
          (refine pl_take (d := 81) (v := ?_) rfl rfl rfl ?_ ?_; rotate_left; (focus ((intro w' hb0 hw'; go_simp) <;> with_reducible rfl)); simp only [Act.put, List.setIfInBounds_toArray, List.set_cons_zero, List.set_cons_succ])
          (refine pl_take (d := 82) (v := ?_) rfl rfl rfl ?_ ?_; rotate_left; (focus ((intro w' hb0 hw'; go_simp) <;> with_reducible rfl)); simp only [Act.put, List.setIfInBounds_toArray, List.set_cons_zero, List.set_cons_succ])
          (refine pl_take (d := 83) (v := ?_) rfl rfl rfl ?_ ?_; rotate_left; (focus ((intro w' hb0 hw'; have q2 : w'.cell? ⟨b2, o2 + q, none⟩ = some (.int .u8 (y : Int)) := (hw'.cell (p := ⟨b2, o2 + q, none⟩) hl2).trans hC2; go_simp) <;> with_reducible rfl)); simp only [Act.put, List.setIfInBounds_toArray, List.set_cons_zero, List.set_cons_succ])
          (refine pl_take (d := 84) (v := ?_) rfl rfl rfl ?_ ?_; rotate_left; (focus ((intro w' hb0 hw'; go_simp) <;> with_reducible rfl)); simp only [Act.put, List.setIfInBounds_toArray, List.set_cons_zero, List.set_cons_succ])
          (refine pl_take (d := 85) (v := ?_) rfl rfl rfl ?_ ?_; rotate_left; (focus ((intro w' hb0 hw'; go_simp) <;> with_reducible rfl)); simp only [Act.put, List.setIfInBounds_toArray, List.set_cons_zero, List.set_cons_succ])
          (refine pl_take (d := 13) (v := ?_) rfl rfl rfl ?_ ?_; rotate_left; (focus ((intro w' hb0 hw'; go_simp) <;> with_reducible rfl)); simp only [Act.put, List.setIfInBounds_toArray, List.set_cons_zero, List.set_cons_succ])
          refine pl_end ?_
          have hO1 := hOW.at' k (by simp [fillTo]; exact HKK.out)
          have cz := hOW.froz
          go_wp2_with fail
          go_roundw
          case measure => have := HKK.out; simp [intOf]; omega
          case rel =>
            have h1 := HKK.out
            have hbF := hbW.setCell (p := ⟨w4.heap.size, k, none⟩) (Nat.le_refl _) (By (UInt8.ofNat ((v + t) % 256)))
            have hOF := hOW.set k (by simp [fillTo]; exact h1) (By (UInt8.ofNat ((v + t) % 256)))
            have e1 : By (UInt8.ofNat ((v + t) % 256)) = By (UInt8.ofNat ((cOver S k + S.getD k 0) % 256)) := by rw [HV.out, HTT.out]
            have e2 : By (UInt8.ofNat ((v + t) % 256)) = .int .u8 ((s : Int) % 256) := by rw [HSS.out.1, byte_of]
            rw [e2] at hbF hOF
            refine ⟨k + 1, by omega, ?_, rfl, Lib.hid (hOF.cast ?_), Lib.hid hbF⟩
            · rw [HS1.out, HSS.out.1, wrap64_div _ HSS.out.2]
            · rw [← fillTo_set, ← e1, e2]
        · obtain rfl : k = 16 := by omega
          have hO' := hO.out
          rw [fillTo_full] at hO'
          have HF : Hid (Blk wr w4.heap.size ((tagR key msg).map By)) := by
            show Blk _ _ _
            rw [HT.out, List.map_map]; exact hO'
          clear hO hO'
          go_wp2
          refine bodyPost_ret (v := .tuple #[.slice (some ⟨w4.heap.size, 0, none⟩) 16 16, .int .i64 0]) (by simp [results, Try.results8, go_sem]) rfl ⟨w4.heap.size, rfl, HB4.out.size, HF.out, hbel.out⟩

theorem check10_bad (key tag : List UInt8) (vm : Value) (w : World) (ok ot : Option Addr) (n c nt ct : Nat) (hk : Reads w ok n key) (hl : ¬ key.length = 32) :
    Calls Try.prog 10 #[.slice ok n c, vm, .slice ot nt ct] w fun r w' => r = .returned (.bool false) ∧ Below w.heap.size w w' := by
  go_enter Try.func10, Try.ntmps10
  go_wp2_with fail
  refine (tag8_bad key vm w ok n c hk hl).mono ?_
  rintro r w' ⟨rfl, rfl⟩
  go_wp2
  refine bodyPost_ret (v := .bool false) (by simp [results, Try.results10, go_sem]) rfl ⟨rfl, Below.refl _ _⟩
end Go.Proofs.Ytlheepcojeaeaaa
