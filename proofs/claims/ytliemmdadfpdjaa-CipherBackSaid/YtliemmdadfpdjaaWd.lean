/-
  Walk: all words changed twice.
-/
import Derived.Test.YtliemmdadfpdjaaWc
namespace Go.Proofs.Ytliemmdadfpdjaa
open Go.RowKit
set_option maxHeartbeats 1000000
set_option linter.unusedVariables false
set_option linter.unusedSimpArgs false

def rA (l : List UInt32) : Nat → List UInt32
  | 0 => l
  | k + 1 => quarterM (rA l k) k (4 + k) (8 + k) (12 + k)
def rB (l : List UInt32) : Nat → List UInt32
  | 0 => l
  | k + 1 => quarterM (rB l k) k (4 + (k + 1) % 4) (8 + (k + 2) % 4) (12 + (k + 3) % 4)
def roundM (l : List UInt32) : List UInt32 := rB (rA l 4) 4
theorem rA_length (l : List UInt32) : ∀ k, (rA l k).length = l.length
  | 0 => rfl
  | k + 1 => (quarterM_length _ _ _ _ _).trans (rA_length l k)
theorem rB_length (l : List UInt32) : ∀ k, (rB l k).length = l.length
  | 0 => rfl
  | k + 1 => (quarterM_length _ _ _ _ _).trans (rB_length l k)
theorem roundM_length (l : List UInt32) : (roundM l).length = l.length := (rB_length _ 4).trans (rA_length l 4)

theorem places (k : Nat) (h : k < 4) : ∃ p q s k1 k2 k3 p' q' s' : Nat, k + 1 = k1 ∧ IntKind.i64.wrap ((k : Int) + 1) = (k1 : Int) ∧ IntKind.i64.wrap ((k : Int) + 2) = (k2 : Int) ∧ IntKind.i64.wrap ((k : Int) + 3) = (k3 : Int) ∧
    (k1 : Int) % 4 = (p' : Int) ∧ (k2 : Int) % 4 = (q' : Int) ∧ (k3 : Int) % 4 = (s' : Int) ∧ IntKind.i64.wrap (4 + (p' : Int)) = (p : Int) ∧ IntKind.i64.wrap (8 + (q' : Int)) = (q : Int) ∧ IntKind.i64.wrap (12 + (s' : Int)) = (s : Int) ∧
    p < 16 ∧ q < 16 ∧ s < 16 ∧ 4 + (k + 1) % 4 = p ∧ 8 + (k + 2) % 4 = q ∧ 12 + (k + 3) % 4 = s := by
  refine ⟨4 + (k + 1) % 4, 8 + (k + 2) % 4, 12 + (k + 3) % 4, k + 1, k + 2, k + 3, (k + 1) % 4, (k + 2) % 4, (k + 3) % 4, rfl, ?_, ?_, ?_, ?_, ?_, ?_, ?_, ?_, ?_, ?_, ?_, ?_, rfl, rfl, rfl⟩
  all_goals first | omega | (rw [IntKind.wrap_i64]; omega)

theorem row48' {cs : List Value} (h : cs.length = 16) : RowTy Try.prog 48 cs.length := by rw [h]; exact row48

theorem round20 (l : List UInt32) (hl : l.length = 16) (w : World) : Calls Try.prog 20 #[W16 l] w fun r w' => r = .returned (W16 (roundM l)) ∧ Below w.heap.size w w' := by
  have HM : Hid (roundM l = rB (rA l 4) 4) := rfl
  have HL := Lib.hid hl; clear hl
  unfold W16
  go_enter Try.func20, Try.ntmps20
  go_wp2
  go_loopw [5] (fun i wr => ∃ k : Nat, k ≤ 4 ∧ i = .int .i64 k ∧ Hid (Blk wr w.heap.size ((rA l k).map U32)) ∧ Hid (Blk wr (w.heap.size + 1) z16w) ∧ Hid (Below w.heap.size w wr)) (fun i _ => 4 - (intOf i).toNat)
  case atStart => exact ⟨0, by omega, rfl, Lib.hid (Blk.cast (by (with_reducible try refine Lib.hid ?_); (repeat (with_reducible first | assumption | (apply Blk.new' <;> (simp; done)) | apply Blk.drew | apply Blk.drewN | apply Blk.alloc | apply Blk.set | apply Blk.setOther)) <;> (try simp [length_fillTo, length_turnTo]) <;> (try omega)) (by rfl)), Lib.hid (Blk.cast (by (with_reducible try refine Lib.hid ?_); (repeat (with_reducible first | assumption | (apply Blk.new' <;> (simp; done)) | apply Blk.drew | apply Blk.drewN | apply Blk.alloc | apply Blk.set | apply Blk.setOther)) <;> (try simp [length_fillTo, length_turnTo]) <;> (try omega)) (by rfl)), by (with_reducible try refine Lib.hid ?_); (repeat (with_reducible first | assumption | exact Below.refl _ _ | apply Below.drew | apply Below.drewN' | apply Below.setCell | apply Below.alloc)) <;> (try simp [length_fillTo, length_turnTo]) <;> (try omega)⟩
  case round =>
    obtain ⟨k, hk, rfl, hA, hR, hbel⟩ := hrel
    by_cases hlt : k < 4
    · have hlen : (rA l k).length = 16 := (rA_length l k).trans HL.out
      have HS : Hid (rA l (k + 1) = quarterM (rA l k) k (4 + k) (8 + k) (12 + k)) := rfl
      have hk5 : (k : Int) < 4 := by omega
      have r1 : IntKind.i64.wrap (4 + (k : Int)) = ((4 + k : Nat) : Int) := by rw [IntKind.wrap_i64]; omega
      have r2 : IntKind.i64.wrap (8 + (k : Int)) = ((8 + k : Nat) : Int) := by rw [IntKind.wrap_i64]; omega
      have r3 : IntKind.i64.wrap (12 + (k : Int)) = ((12 + k : Nat) : Int) := by rw [IntKind.wrap_i64]; omega
      have hA' := hA.out; have hR' := hR.out; have hb' := hbel.out
      have hrow : RowTy Try.prog 48 ((rA l k).map U32).length := row48' (by simp [hlen])
      have HLEN := Lib.hid hlen; clear hlen
      generalize hcur : rA l k = cur at *
      have HCUR := Lib.hid hcur; clear hcur
      clear hA hR hbel
      go_wp2_with (first | (refine wpList_load_blk rfl rfl hA' rfl hrow ?_) | (refine stop_store rfl ?_))
      refine (quarter22 cur HLEN.out k (4 + k) (8 + k) (12 + k) (by omega) (by omega) (by omega) (by omega) wr).mono ?_
      rintro r w1 ⟨rfl, hb1⟩
      have hA1 := hA'.later hb1; have hR1 := hR'.later hb1; have hb1' := below_step hb' hb1
      have hl1 : (quarterM cur k (4 + k) (8 + k) (12 + k)).length = 16 := (quarterM_length _ _ _ _ _).trans HLEN.out
      have hrow1 : RowTy Try.prog 48 ((quarterM cur k (4 + k) (8 + k) (12 + k)).map U32).length := row48' (by simp [hl1])
      have HL1 := Lib.hid hl1; clear hl1 hb1 hA' hR' hb'
      unfold W16
      go_wp2_with (first | (refine stop_store rfl ?_))
      refine ⟨wpList_store_blk rfl rfl hA1 (by rfl) (by rfl) hrow1 (by simp [HL1.out, HLEN.out]) (oneU32 _) ?_⟩
      intro W2 hA2 hg2
      have hR2 := hR1.grown hg2 (by simp)
      have hb2 := Below.grownB hb1' hg2 (Nat.le_refl _) hb1'.size
      clear hA1 hR1 hb1' hg2 hrow hrow1
      go_wp2
      go_roundw
      case measure =>
        skip
        (simp [intOf]) <;> omega
      case rel =>
        have hh := HS.out
        refine ⟨k + 1, by omega, by go_num, Lib.hid (Blk.cast hA2 ?_), hR2, hb2⟩
        rw [hh]
    · obtain rfl : k = 4 := by omega
      have hl4 : (rA l 4).length = 16 := (rA_length l 4).trans HL.out
      have HL4 := Lib.hid hl4; clear hl4
      generalize rA l 4 = m at *
      go_wp2
      go_loopw [18] (fun i wr => ∃ k : Nat, k ≤ 4 ∧ i = .int .i64 k ∧ Hid (Blk wr w.heap.size ((rB m k).map U32)) ∧ Hid (Blk wr (w.heap.size + 1) z16w) ∧ Hid (Below w.heap.size w wr)) (fun i _ => 4 - (intOf i).toNat)
      case atStart => exact ⟨0, by omega, rfl, hA, hR, hbel⟩
      case round =>
        clear hA hR hbel
        obtain ⟨k, hk, rfl, hA, hR, hbel⟩ := hrel
        by_cases hlt : k < 4
        · have hlen : (rB m k).length = 16 := (rB_length m k).trans HL4.out
          have HS : Hid (rB m (k + 1) = quarterM (rB m k) k (4 + (k + 1) % 4) (8 + (k + 2) % 4) (12 + (k + 3) % 4)) := rfl
          have hk5 : (k : Int) < 4 := by omega
          obtain ⟨p, q, s, k1, k2, k3, p', q', s', hk1, e1, e2, e3, f1, f2, f3, r1, r2, r3, hp16, hq16, hs16, hp, hq, hs⟩ := places k hlt
          rw [hp, hq, hs] at HS
          have HK1 := Lib.hid hk1
          clear hp hq hs hk1
          have hA' := hA.out; have hR' := hR.out; have hb' := hbel.out
          have hrow : RowTy Try.prog 48 ((rB m k).map U32).length := row48' (by simp [hlen])
          have HLEN := Lib.hid hlen; clear hlen
          generalize hcur : rB m k = cur at *
          have HCUR := Lib.hid hcur; clear hcur
          clear hA hR hbel
          go_wp2_with (first | (refine wpList_load_blk rfl rfl hA' rfl hrow ?_) | (refine stop_store rfl ?_))
          refine (quarter22 cur HLEN.out k (p) (q) (s) (by omega) (by omega) (by omega) (by omega) wr).mono ?_
          rintro r w1 ⟨rfl, hb1⟩
          have hA1 := hA'.later hb1; have hR1 := hR'.later hb1; have hb1' := below_step hb' hb1
          have hl1 : (quarterM cur k (p) (q) (s)).length = 16 := (quarterM_length _ _ _ _ _).trans HLEN.out
          have hrow1 : RowTy Try.prog 48 ((quarterM cur k (p) (q) (s)).map U32).length := row48' (by simp [hl1])
          have HL1 := Lib.hid hl1; clear hl1 hb1 hA' hR' hb'
          unfold W16
          go_wp2_with (first | (refine stop_store rfl ?_))
          refine ⟨wpList_store_blk rfl rfl hA1 (by rfl) (by rfl) hrow1 (by simp [HL1.out, HLEN.out]) (oneU32 _) ?_⟩
          intro W2 hA2 hg2
          have hR2 := hR1.grown hg2 (by simp)
          have hb2 := Below.grownB hb1' hg2 (Nat.le_refl _) hb1'.size
          clear hA1 hR1 hb1' hg2 hrow hrow1
          go_wp2
          refine ⟨?_, ?measure2⟩
          rotate_left
          · have hk1 := HK1.out
            (simp [intOf]) <;> omega
          (repeat apply Exists.intro)
          refine ⟨?rel2, rfl⟩
          case rel2 =>
            have hh := HS.out
            refine ⟨k + 1, by omega, by have hk1 := HK1.out; rw [hk1], Lib.hid (Blk.cast hA2 ?_), hR2, hb2⟩
            rw [hh]
        · obtain rfl : k = 4 := by omega
          have hl5 : (rB m 4).length = 16 := (rB_length m 4).trans HL4.out
          generalize rB m 4 = o at *
          have hA' := hA.out; have hR' := hR.out; have hb' := hbel.out
          have hrow : RowTy Try.prog 48 (o.map U32).length := row48' (by simp [hl5])
          have HL5 := Lib.hid hl5; clear hl5
          clear hA hR hbel
          go_wp2_with (first | (refine wpList_load_blk rfl rfl hA' rfl hrow ?_) | (refine stop_store rfl ?_))
          refine ⟨wpList_store_blk rfl rfl hR' (by rfl) (by rfl) hrow (by simp [HL5.out, z16w]) (oneU32 _) ?_⟩
          intro W5 hR5 hg5
          have hb5 := Below.grownB hb' hg5 (by omega) hb'.size
          go_wp2
          refine ret_blk (fn := Try.f20) rfl rfl hR5 hrow rfl ⟨?_, hb5⟩
          rw [HM.out]
end Go.Proofs.Ytliemmdadfpdjaa
