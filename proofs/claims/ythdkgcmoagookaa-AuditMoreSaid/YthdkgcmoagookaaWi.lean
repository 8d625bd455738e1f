/-
  The document: whether no two names have one identifier, of whom any nodes know.
-/
import Derived.Test.YthdkgcmoagookaaWh
namespace Go.Proofs.Ythdkgcmoagookaa
open Go.RowKit Go.Proofs.Ythdkgcmoagookaa.Plan Go.Proofs.Ythdkgcmoagookaa.Eager
set_option maxHeartbeats 4000000
set_option maxRecDepth 20000
set_option linter.unusedVariables false
set_option linter.unusedSimpArgs false

/-- two peers of unlike names with one identifier? -/
def clashD (p q : Pe) : Bool := alikeD p.ent q.ent
def apartL (all : List Pe) : Bool := all.all fun p => all.all fun q => !clashD p q
def apartD (l : List Nd) : Bool := apartL (l.flatMap allD)
theorem apart_no (all : List Pe) (i j : Nat) (hi : i < all.length) (hj : j < all.length) (h : clashD all[i] all[j] = true) : apartL all = false := by
  unfold apartL
  rw [List.all_eq_false]
  refine ⟨_, List.getElem_mem hi, ?_⟩
  rw [Bool.not_eq_true, List.all_eq_false]
  exact ⟨_, List.getElem_mem hj, by simp [h]⟩
theorem apart_yes (all : List Pe) (h : ∀ i (hi : i < all.length) j (hj : j < all.length), clashD all[i] all[j] = false) : apartL all = true := by
  unfold apartL
  rw [List.all_eq_true]
  intro p hp
  rw [List.all_eq_true]
  intro q hq
  obtain ⟨i, hi, rfl⟩ := List.getElem_of_mem hp
  obtain ⟨j, hj, rfl⟩ := List.getElem_of_mem hq
  rw [h i hi j hj]; rfl
theorem pe_oneCells (l : List Pe) : ∀ u ∈ l.flatMap Pe.cells, u.oneCell' = true := flat_one pe_one l
theorem flat_take {α β : Type} (f : α → List β) (l : List α) (k : Nat) (h : k < l.length) : (l.take (k + 1)).flatMap f = (l.take k).flatMap f ++ f l[k] := by
  rw [List.take_succ_eq_append_getElem h, List.flatMap_append]; simp
theorem flat_le {α β : Type} (f : α → List β) (l : List α) (m : Nat) (h : ∀ a ∈ l, (f a).length ≤ m) (k : Nat) (hk : k ≤ l.length) : ((l.take k).flatMap f).length ≤ k * m := by
  induction k with
  | zero => simp
  | succ k ih =>
    have h1 := ih (by omega)
    have h2 := h l[k] (List.getElem_mem (by omega))
    rw [flat_take f l k (by omega), List.length_append, Nat.succ_mul]
    omega

theorem refApart20 (l : List Nd) (w : World) (oa : Option Addr) (n c : Nat) (h : RNd w oa n c l) (hf : ∀ p ∈ l, p.Few) (hl : l.length ≤ 10) :
    Calls Try.prog 20 #[.slice oa n c] w fun r w' => r = .returned (.bool (apartD l)) ∧ Below w.heap.size w w' := by
  obtain rfl : n = l.length := h.rows.rows.len
  have H := Lib.hid h; have HF := Lib.hid hf; have HL := Lib.hid hl
  have HD : Hid (apartD l = apartL (l.flatMap allD)) := rfl
  have HO : Hid (Own w w.heap.size 50 8 (.slice none 0 0) ([] : List Pe).length (([] : List Pe).flatMap Pe.cells)) := Own.nil _ _ _ _
  clear h hf hl
  go_enter Try.func20, Try.ntmps20
  go_wp2
  go_loopw [3, 4] (fun v i wr => ∃ k : Nat, k ≤ l.length ∧ i = .int .i64 k ∧ Hid (Own wr w.heap.size 50 8 v ((l.take k).flatMap allD).length (((l.take k).flatMap allD).flatMap Pe.cells)) ∧ Hid (Below w.heap.size w wr)) (fun _ i _ => l.length - (intOf i).toNat)
  case atStart => exact ⟨0, by omega, rfl, HO, Lib.hid (Below.refl _ _)⟩
  case round =>
    clear HO
    obtain ⟨k, hk, rfl, hO, hB⟩ := hrel
    by_cases hlt : k < l.length
    · have hi1 : (k : Int) < (l.length : Int) := by omega
      have rk : IntKind.i64.wrap ((k : Int) + 1) = ((k + 1 : Nat) : Int) := by
        have h1 := HL.out
        rw [IntKind.wrap_i64]; omega
      have hR := H.out.below hB.out
      have HG := Lib.hid (hR.good _ (List.getElem_mem hlt))
      have HW := Lib.hid (HF.out _ (List.getElem_mem hlt))
      obtain ⟨b1, p1, rfl, hA⟩ := hR.rows.rows.nd hlt
      have HT := Lib.hid (flat_take allD l k hlt)
      have HK : Hid (((l.take k).flatMap allD).length ≤ 1500) := by
        have h1 := flat_le allD l 150 (fun a ha => all_len a (HF.out a ha)) k (by omega)
        have h2 := HL.out
        show _ ≤ _
        omega
      obtain ⟨s, hs⟩ : ∃ s, l[k] = s := ⟨_, rfl⟩
      rw [hs] at hA HT HG HW
      have HA := Lib.hid hA
      clear hs hA hR
      obtain ⟨L, hL⟩ : ∃ L, (l.take k).flatMap allD = L := ⟨_, rfl⟩
      rw [hL] at hO HK HT
      clear hL
      go_wp2_with (refine stop_load (ty := 41) rfl ?_)
      refine ⟨wpList_load_at rfl rfl HA.out (by rfl) row41 ?_⟩
      go_wp2_with fail
      refine (refAll16 s wr HG.out HW.out).mono ?_
      rintro r w2 ⟨v, rfl, hO2, hb⟩
      have HLA := Lib.hid (all_len s HW.out)
      obtain ⟨so, sc, rfl, hR2⟩ := hO2.rws rfl
      have HO3 := Lib.hid (hO.out.later hb); have HB3 := Lib.hid (below_step hB.out hb); have HR2 := Lib.hid hR2
      clear hO hB hb hO2 hR2 HA HG HW
      go_wp2_with (refine stop_append rfl ?_)
      have hlen := HK.out; have hlen2 := HLA.out
      refine ⟨wpList_app el32 rfl rfl (by rfl) HO3.out (by rfl) (m := (allD s).length) (by rw [pe_len]) HR2.out.rows.cells (pe_oneCells _) (by simp [maxLen]; omega) (by omega) HB3.out.size ?_⟩
      intro v6 W6 hO6 hg6
      have hb6 := HO3.out.below hg6 HB3.out (Nat.le_refl _) HB3.out.size
      have HO6 := Lib.hid hO6; have HB6 := Lib.hid hb6
      clear hO6 hg6 hb6 hlen hlen2 HO3 HB3 HR2
      go_wp2_with fail
      go_roundw
      case measure => (simp [intOf]) <;> omega
      case rel => exact ⟨k + 1, by omega, rfl, Lib.hid (by rw [HT.out, List.length_append, List.flatMap_append]; exact HO6.out), HB6⟩
    · obtain rfl : k = l.length := by omega
      rw [List.take_length] at hO
      have HLEN : Hid ((l.flatMap allD).length ≤ 1500) := by
        have h1 := flat_le allD l 150 (fun a ha => all_len a (HF.out a ha)) l.length (Nat.le_refl _)
        have h2 := HL.out
        rw [List.take_length] at h1
        show _ ≤ _
        omega
      obtain ⟨all, hall⟩ : ∃ q, l.flatMap allD = q := ⟨_, rfl⟩
      rw [hall] at hO HD HLEN
      obtain ⟨so, sc, rfl, hR⟩ := hO.out.rws rfl
      have HR := Lib.hid hR; have HB := hB
      clear hall hO hR hB
      obtain ⟨w1, rfl⟩ : ∃ q, q = wr := ⟨_, rfl⟩
      go_wp2
      clear hk
      go_loopw [5] (fun i wr => ∃ k : Nat, k ≤ all.length ∧ i = .int .i64 k ∧ Hid (∀ i (hi : i < all.length) j (hj : j < all.length), i < k → clashD all[i] all[j] = false) ∧ Hid (Below w1.heap.size w1 wr)) (fun i _ => all.length - (intOf i).toNat)
      case atStart => exact ⟨0, by omega, rfl, Lib.hid (fun _ _ _ _ h => by omega), Lib.hid (Below.refl _ _)⟩
      case round =>
        obtain ⟨k, hk, rfl, hS, hC⟩ := hrel
        by_cases hlt : k < all.length
        · have hi1 : (k : Int) < (all.length : Int) := by omega
          have rk : IntKind.i64.wrap ((k : Int) + 1) = ((k + 1 : Nat) : Int) := by
            have h1 := HLEN.out
            rw [IntKind.wrap_i64]; omega
          go_wp2
          go_loopw [6] (fun i wr => ∃ j : Nat, j ≤ all.length ∧ i = .int .i64 j ∧ Hid (∀ q (hq : q < all.length), q < j → clashD all[k] all[q] = false) ∧ Hid (Below w1.heap.size w1 wr)) (fun i _ => all.length - (intOf i).toNat)
          case atStart => exact ⟨0, by omega, rfl, Lib.hid (fun _ _ h => by omega), hC⟩
          case round =>
            obtain ⟨j, hj, rfl, hN, hB⟩ := hrel
            by_cases hjk : j < all.length
            · have hj1 : (j : Int) < (all.length : Int) := by omega
              have rj : IntKind.i64.wrap ((j : Int) + 1) = ((j + 1 : Nat) : Int) := by
                have h1 := HLEN.out
                rw [IntKind.wrap_i64]; omega
              have hr := HR.out.rows.below hB.out
              obtain ⟨b1, p1, rfl, hA⟩ := hr.pe hlt
              obtain ⟨b2, p2, he2, hE⟩ := hr.pe hjk
              cases he2
              have HG : Hid (clashD all[k] all[j] = false → ∀ q (hq : q < all.length), q < j + 1 → clashD all[k] all[q] = false) := fun h q hq hq2 => by
                by_cases e : q = j
                · subst e; exact h
                · exact hN.out q hq (by omega)
              have HX : Hid (clashD all[k] all[j] = true → apartL all = false) := apart_no all k j hlt hjk
              obtain ⟨a, ha⟩ : ∃ s, all[k] = s := ⟨_, rfl⟩
              obtain ⟨b, hb⟩ : ∃ s, all[j] = s := ⟨_, rfl⟩
              have HV : Hid (clashD a b = (decide (a.ent.id = b.ent.id) && !decide (a.ent.name = b.ent.name))) := rfl
              have HAE := Lib.hid ha
              rw [ha] at hA HG HX; rw [hb] at hE HG HX
              have y0 : wr.cell? ⟨b1, p1 + k * 8, none⟩ = some (.string a.ent.name) := hA.get 0 (by simp [Pe.cells])
              have y1 : wr.cell? ⟨b1, p1 + k * 8 + 1, none⟩ = some (.int .u64 a.ent.id) := hA.get 1 (by simp [Pe.cells])
              have x0 : wr.cell? ⟨b1, p1 + j * 8, none⟩ = some (.string b.ent.name) := hE.get 0 (by simp [Pe.cells])
              have x1 : wr.cell? ⟨b1, p1 + j * 8 + 1, none⟩ = some (.int .u64 b.ent.id) := hE.get 1 (by simp [Pe.cells])
              have xl := hA.lt
              clear ha hb hA hE hN hr
              by_cases h1 : a.ent.id = b.ent.id
              · have h1' : ((a.ent.id : Int) == (b.ent.id : Int)) = true := by rw [h1]; simp
                by_cases h2 : a.ent.name = b.ent.name
                · have h2' : (a.ent.name.toList == b.ent.name.toList) = true := by rw [h2]; simp
                  have HG2 := Lib.hid (HG.out (by rw [HV.out, h2]; simp))
                  clear HG HV HX h1 h2
                  go_wp2
                  go_quiet (fail)
                  go_wp2_with fail
                  refine ⟨?_, ?measureA⟩
                  rotate_left
                  · (simp [intOf]) <;> omega
                  have hfin : ∃ k_1 : Nat, k_1 ≤ all.length ∧ Value.int IntKind.i64 ((j : Int) + 1) = Value.int IntKind.i64 (k_1 : Int) ∧ Hid (∀ q (hq : q < all.length), q < k_1 → clashD all[k] all[q] = false) ∧ Hid (Below w1.heap.size w1 (wr.drewN nq)) := ⟨j + 1, by omega, rfl, Lib.hid (by rw [HAE.out]; exact HG2.out), Lib.hid (Below.drewN' hB.out nq)⟩
                  first | exact hfin | ((repeat apply Exists.intro); exact ⟨hfin, rfl⟩)
                · have h2' : (a.ent.name.toList == b.ent.name.toList) = false := strne h2
                  have HX2 := Lib.hid (HX.out (by rw [HV.out, h1]; simp [h2]))
                  clear HG HV HX h1 h2
                  go_wp2
                  go_quiet (fail)
                  go_wp2
                  refine bodyPost_ret (v := .bool false) (by simp [results, Try.results20, go_sem]) rfl ⟨by rw [HD.out, HX2.out], Below.drewN' (below_step HB.out hB.out) nq⟩
              · have h1' : ((a.ent.id : Int) == (b.ent.id : Int)) = false := by simp; omega
                have HG2 := Lib.hid (HG.out (by rw [HV.out, decide_eq_false h1]; rfl))
                clear HG HV HX h1
                go_wp2
                go_quiet (fail)
                go_wp2_with fail
                refine ⟨?_, ?measureB⟩
                rotate_left
                · (simp [intOf]) <;> omega
                have hfin : ∃ k_1 : Nat, k_1 ≤ all.length ∧ Value.int IntKind.i64 ((j : Int) + 1) = Value.int IntKind.i64 (k_1 : Int) ∧ Hid (∀ q (hq : q < all.length), q < k_1 → clashD all[k] all[q] = false) ∧ Hid (Below w1.heap.size w1 (wr.drewN nq)) := ⟨j + 1, by omega, rfl, Lib.hid (by rw [HAE.out]; exact HG2.out), Lib.hid (Below.drewN' hB.out nq)⟩
                first | exact hfin | ((repeat apply Exists.intro); exact ⟨hfin, rfl⟩)
            · obtain rfl : j = all.length := by omega
              have HS2 : Hid (∀ i (hi : i < all.length) q (hq : q < all.length), i < k + 1 → clashD all[i] all[q] = false) := fun i hi q hq hik => by
                by_cases e : i = k
                · subst e; exact hN.out q hq hq
                · exact hS.out i hi q hq (by omega)
              clear hN hS
              go_wp2_with fail
              refine ⟨?_, ?measureC⟩
              rotate_left
              · (simp [intOf]) <;> omega
              have hfin : ∃ k_1 : Nat, k_1 ≤ all.length ∧ Value.int IntKind.i64 ((k : Int) + 1) = Value.int IntKind.i64 (k_1 : Int) ∧ Hid (∀ i (hi : i < all.length) j (hj : j < all.length), i < k_1 → clashD all[i] all[j] = false) ∧ Hid (Below w1.heap.size w1 wr) := ⟨k + 1, by omega, rfl, HS2, hB⟩
              first | exact hfin | ((repeat apply Exists.intro); exact ⟨hfin, rfl⟩)
        · obtain rfl : k = all.length := by omega
          have HY := Lib.hid (apart_yes all (fun i hi j hj => hS.out i hi j hj hi))
          clear hS
          go_wp2
          refine bodyPost_ret (v := .bool true) (by simp [results, Try.results20, go_sem]) rfl ⟨by rw [HD.out, HY.out], below_step HB.out hC.out⟩
end Go.Proofs.Ythdkgcmoagookaa
