/-
  Walk: the chapter's example.
-/
import Derived.Test.YtmfglppgpjplfaaWe
namespace Go.Proofs.Ytmfglppgpjplfaa
open Go.RowKit Go.Proofs.Ytmfglppgpjplfaa.Plan Go.Proofs.Ytmfglppgpjplfaa.Eager
set_option maxHeartbeats 2000000
set_option maxRecDepth 20000
set_option linter.unusedVariables false
set_option linter.unusedSimpArgs false

def sess (i : Nat) : Ses := { ses0 with id := i + 1, state := 3, used := i }
def sessTo (k : Nat) : List Ses := (List.range k).map sess
def busyTo (k : Nat) : List Nat := ((List.range k).filter fun i => decide (i ≠ 5)).map (· + 1)
def s99 : Ses := { ses0 with id := 99, state := 3 }
def s3 : Ses := { ses0 with id := 3, state := 3 }
def k99 : List Ses := (sessTo 24).eraseIdx 5 ++ [s99]
theorem ex_add : ∀ k, k < 24 → addD (sessTo k) [] (sess k) = (sessTo (k + 1), 0) := by decide +kernel
theorem ex_99 : addD (sessTo 24) (busyTo 24) s99 = (k99, 0) := by decide +kernel
theorem ex_3 : addD (sessTo 24) (busyTo 24) s3 = (sessTo 24, 26) := by decide +kernel
theorem ex_6 : idxD (byId 6) k99 = -1 := by decide +kernel
theorem ex_at : idxD (byId 99) k99 = 23 := by decide +kernel
theorem ex_len : k99.length = 24 := by decide +kernel
theorem busy_succ (k : Nat) : busyTo (k + 1) = busyTo k ++ (if k = 5 then [] else [k + 1]) := by
  unfold busyTo
  rw [List.range_succ, List.filter_append, List.map_append]
  congr 1
  by_cases h : k = 5 <;> simp [h]
theorem sess_len (k : Nat) : (sessTo k).length = k := by simp [sessTo]
theorem busy_le (k : Nat) : (busyTo k).length ≤ k := by
  have := List.length_filter_le (fun i => decide (i ≠ 5)) (List.range k)
  unfold busyTo
  simp only [List.length_map, List.length_range] at this ⊢
  exact this
theorem el23 : Elem Try.prog 23 24 1 8 := Elem.of (.int .u64 0) rfl (by kernel_rfl) rfl (by omega)

theorem works9 (w : World) : Calls Try.prog 9 #[] w fun r w' => r = .returned (.bool true) ∧ Below w.heap.size w w' := by
  go_enter Try.func9, Try.ntmps9
  go_wp2
  go_loopw [1, 2, 3, 5, 6, 11] (fun v1 v2 _ _ _ u wr => ∃ (k : Nat) (o : Option Addr) (c : Nat), k ≤ 24 ∧ u = .int .i64 k ∧ v1 = .slice o k c ∧ Hid (RSes wr o k c (sessTo k)) ∧ Hid (Own wr w.heap.size 24 1 v2 (busyTo k).length ((busyTo k).flatMap u64c)) ∧ Hid (Below w.heap.size w wr)) (fun _ _ _ _ _ u _ => 24 - (intOf u).toNat)
  case atStart => exact ⟨0, none, 0, by omega, rfl, rfl, Lib.hid (Rws.nil _ _), Lib.hid (Own.nil _ _ _ _), by (with_reducible try refine Lib.hid ?_); (repeat (with_reducible first | assumption | exact Below.refl _ _ | apply Below.drew | apply Below.drewN' | apply Below.setCell | apply Below.alloc)) <;> (try simp [length_fillTo, length_turnTo]) <;> (try omega)⟩
  case round =>
    obtain ⟨k, o, c, hk, rfl, rfl, hR, hO, hB⟩ := hrel
    by_cases hlt : k < 24
    · have hi1 : (k : Int) < 24 := by omega
      have rk : IntKind.i64.wrap ((k : Int) + 1) = ((k + 1 : Nat) : Int) := by rw [IntKind.wrap_i64]; omega
      have r1 : IntKind.u64.wrap (k : Int) = (k : Int) := by rw [IntKind.wrap_u64]; omega
      have r2 : IntKind.u64.wrap ((k : Int) + 1) = ((k + 1 : Nat) : Int) := by rw [IntKind.wrap_u64]; omega
      have hal : Below wr.heap.size wr (wr.alloc (.cells ses0.cells.toArray 30)) := (Below.refl _ _).alloc (Nat.le_refl _) _
      have hZ : Blk (wr.alloc (.cells ses0.cells.toArray 30)) wr.heap.size ses0.cells := Blk.new' rfl
      have HAL := Lib.hid hal; have HZ := Lib.hid hZ
      have HBS := Lib.hid (busy_succ k)
      have HBL := Lib.hid (busy_le k)
      have HLT : Hid (∀ b, u2.ownBlock = some b → b < wr.heap.size) := fun b e => (hO.out.row.lt b e).2
      clear hal hZ
      obtain ⟨wA, rfl⟩ : ∃ x, x = wr := ⟨_, rfl⟩
      go_wp2_with (refine stop_store (ty := 30) rfl ?_)
      refine ⟨wpList_store_blk rfl rfl HZ.out (by rfl) (vs := (sess k).cells) (by rfl) row30 rfl (ses_one _) ?_⟩
      intro W5 hX5 hg5
      have hbk5 := Below.grownB HAL.out hg5 (Nat.le_refl _) HAL.out.size
      have HX := Lib.hid hX5
      have HR := Lib.hid (hR.out.below hbk5); have HO := Lib.hid (hO.out.later hbk5); have HB := Lib.hid (below_step hB.out hbk5)
      have HADD := Lib.hid (add10 (sessTo k) [] (sess k) _ o k c none 0 0 HR.out (Rws.nil _ _) (by rw [sess_len]; omega))
      rw [ex_add k hlt] at HADD
      clear hX5 hg5 hbk5 HAL HZ hR hO hB
      go_wp2_with (refine stop_load (ty := 30) rfl ?_)
      refine ⟨wpList_load_blk rfl rfl HX.out (by rfl) row30 ?_⟩
      go_wp2_with fail
      refine HADD.out.mono ?_
      rintro r w1 ⟨v, rfl, hO1, hb⟩
      have hX1 := HX.out.later hb
      have x0 : w1.cell? ⟨wA.heap.size, 0, none⟩ = some (.int .u64 ((k + 1 : Nat) : Int)) := ses_at hX1 0 (by omega)
      have hxl := hX1.lt
      have HO2 := Lib.hid (HO.out.later hb); have HB2 := Lib.hid (below_step HB.out hb)
      simp only at hO1
      have hO1' := hO1
      have HSZ := Lib.hid HB.out.size
      have hwa : wA.heap.size ≤ W5.heap.size := by have := HX.out.lt; omega
      obtain ⟨o1, c1, rfl, hR1⟩ := Own.rws hO1 rfl
      rw [sess_len] at hR1 ⊢
      have HR1 := Lib.hid hR1
      rw [sess_len] at hO1'
      have HOWN := Lib.hid hO1'; have HWA := Lib.hid hwa
      clear HADD hb hX1 hO1 hR1 HX HR HO HB hO1' hwa
      by_cases h5 : k = 5
      · subst h5
        go_wp2
        go_roundw
        case measure => (simp [intOf]) <;> omega
        case rel => exact ⟨6, _, _, by omega, rfl, rfl, HR1, Lib.hid (by rw [HBS.out]; simpa using HO2.out), HB2⟩
      · have h5' : ¬ (k : Int) = 5 := by omega
        rw [if_neg h5] at HBS
        have hN3 : Blk (w1.alloc (.cells #[.int .u64 ((k + 1 : Nat) : Int)] 24)) w1.heap.size [.int .u64 ((k + 1 : Nat) : Int)] := Blk.new' rfl
        have hal2 : Below w1.heap.size w1 (w1.alloc (.cells #[.int .u64 ((k + 1 : Nat) : Int)] 24)) := (Below.refl _ _).alloc (Nat.le_refl _) _
        have HN3 := Lib.hid hN3; have HO3 := Lib.hid (HO2.out.later hal2); have HB3 := Lib.hid (below_step HB2.out hal2); have HR3 := Lib.hid (HR1.out.below hal2)
        have HOW2 := Lib.hid (HOWN.out.later hal2)
        clear hN3 hal2 h5 HO2 HB2 HR1 HOWN
        go_wp2_with (refine stop_append rfl ?_)
        have hlen := HBL.out
        refine ⟨wpList_app el23 rfl (by rfl) (by rfl) HO3.out (by rfl) (m := 1) rfl HN3.out.cells (by simp [Value.oneCell']) (by simp [maxLen]; omega) (by omega) HB3.out.size ?_⟩
        intro v6 W6 hO6 hg6
        have hb6 := HO3.out.below hg6 HB3.out (Nat.le_refl _) HB3.out.size
        have hW6 := HOW2.out.grown hg6 (fun b e e2 => by
          have h1 := HLT.out b e2
          have h2 := (HOW2.out.row.lt b e).1
          have h3 := HWA.out
          omega)
        have hR6 : RSes W6 o1 (k + 1) c1 (sessTo (k + 1)) := by
          obtain ⟨o', c', e, hr⟩ := Own.rws hW6 (by rw [sess_len])
          rw [sess_len] at e hr
          cases e
          exact hr
        have HO6 := Lib.hid hO6; have HB6 := Lib.hid hb6; have HR6 := Lib.hid hR6
        clear hO6 hg6 hb6 hlen HO3 HB3 HN3 HR3 hR6 x0 hxl
        go_wp2
        go_roundw
        case measure => (simp [intOf]) <;> omega
        case rel => exact ⟨k + 1, _, _, by omega, rfl, rfl, HR6, Lib.hid (by rw [HBS.out]; simpa [u64c] using HO6.out), HB6⟩
    · obtain rfl : k = 24 := by omega
      obtain ⟨ob, cb, rfl, hU⟩ := Own.rws hO.out rfl
      have HU := Lib.hid hU; have HR := hR; have HB := hB
      clear hU hR hO hB
      have HA1 := Lib.hid (add10 (sessTo 24) (busyTo 24) s99 wr o 24 c ob _ cb HR.out HU.out (by rw [sess_len]; omega))
      rw [ex_99] at HA1
      go_wp2_with fail
      refine HA1.out.mono ?_
      rintro r w1 ⟨v, rfl, hO1, hb⟩
      simp only at hO1
      obtain ⟨o1, c1, rfl, hR1⟩ := Own.rws hO1 rfl
      have H1 := Lib.hid hR1
      replace HU := Lib.hid (HU.out.below hb); replace HR := Lib.hid (HR.out.below hb); replace HB := Lib.hid (below_step HB.out hb)
      rw [ex_len] at H1 ⊢
      clear hb hO1 hR1 HA1
      have HA1 := Lib.hid (add10 (sessTo 24) (busyTo 24) s3 w1 o 24 c ob _ cb HR.out HU.out (by rw [sess_len]; omega))
      rw [ex_3] at HA1
      go_wp2_with fail
      refine HA1.out.mono ?_
      rintro r w2 ⟨v, rfl, hO1, hb⟩
      replace H1 := Lib.hid (H1.out.below hb); replace HB := Lib.hid (below_step HB.out hb)
      clear hb hO1 HA1 HU HR
      simp only
      go_wp2_with fail
      refine (byId14 k99 6 w2 o1 _ c1 H1.out).mono ?_
      rintro r w3 ⟨rfl, hb⟩
      rw [ex_6]
      replace H1 := Lib.hid (H1.out.below hb); replace HB := Lib.hid (below_step HB.out hb)
      clear hb
      go_wp2_with fail
      refine (byId14 k99 99 w3 o1 _ c1 H1.out).mono ?_
      rintro r w4 ⟨rfl, hb⟩
      rw [ex_at]
      replace HB := Lib.hid (below_step HB.out hb)
      clear hb H1
      go_wp2
      refine bodyPost_ret (v := .bool true) (by simp [results, Try.results9, go_sem]) rfl ⟨rfl, HB.out⟩
end Go.Proofs.Ytmfglppgpjplfaa
