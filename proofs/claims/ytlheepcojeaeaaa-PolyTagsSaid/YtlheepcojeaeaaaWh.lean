/-
  Walks of numbers of five parts: sums of bytes.
-/
import Derived.Test.YtlheepcojeaeaaaWc
import Derived.Deep.QuietTactic
import Derived.BigQuiet
namespace Go.Proofs.Ytlheepcojeaeaaa
open Go.RowKit
set_option maxHeartbeats 400000
set_option linter.unusedVariables false
set_option linter.unusedSimpArgs false

/-- what is carried -/
def sOver (a b : List UInt8) : Nat → Nat
  | 0 => 0
  | k + 1 => (sOver a b k + ((a.getD k 0).toNat + (b.getD k 0).toNat)) / 256
theorem sOver_le (a b : List UInt8) : ∀ k, sOver a b k ≤ 1
  | 0 => by simp [sOver]
  | k + 1 => by
    have := sOver_le a b k
    have h1 := (a.getD k 0).toNat_lt; have h2 := (b.getD k 0).toNat_lt
    simp only [sOver]; omega
def sByte (a b : List UInt8) (k : Nat) : UInt8 := UInt8.ofNat (sOver a b k + ((a.getD k 0).toNat + (b.getD k 0).toNat))
def sumM (a b : List UInt8) : List UInt8 := (List.range 16).map (sByte a b)

/-- 16 bytes in a new block -/
def NewOut (w : World) (l : List UInt8) (e : Ending) (w' : World) : Prop :=
  ∃ g, e = .returned (.slice (some ⟨g, 0, none⟩) 16 16) ∧ w.heap.size ≤ g ∧ Blk w' g (l.map By) ∧ Below w.heap.size w w'

theorem sum17 (a b : List UInt8) (w : World) (oa ob : Option Addr) (n m c d : Nat) (ha : Reads w oa n a) (hb : Reads w ob m b) (hla : a.length = 16) (hlb : b.length = 16) :
    Calls Try.prog 17 #[.slice oa n c, .slice ob m d] w (NewOut w (sumM a b)) := by
  obtain rfl : n = 16 := ha.len.trans hla
  obtain rfl : m = 16 := hb.len.trans hlb
  have HA := Lib.hid ha.cells; have HB := Lib.hid hb.cells; clear ha hb
  have HLA := Lib.hid hla; have HLB := Lib.hid hlb; clear hla hlb
  go_enter Try.func17, Try.ntmps17
  have hmk := mk16
  go_wp2
  go_loopw [6, 11] (fun o i wr => ∃ k : Nat, k ≤ 16 ∧ i = .int .i64 k ∧ o = .int .i64 (sOver a b k) ∧ Hid (Blk wr w.heap.size (fillTo (fun i => By (sByte a b i)) (By 0) k 16)) ∧ Hid (Below w.heap.size w wr)) (fun _ i _ => 16 - (intOf i).toNat)
  case atStart =>
    refine ⟨0, by omega, rfl, rfl, ?_, by (with_reducible try refine Lib.hid ?_); (repeat (with_reducible first | assumption | exact Below.refl _ _ | apply Below.drew | apply Below.drewN' | apply Below.setCell | apply Below.alloc)) <;> (try simp [length_fillTo, length_turnTo]) <;> (try omega)⟩
    · exact Blk.cast (by (with_reducible try refine Lib.hid ?_); (repeat (with_reducible first | assumption | (apply Blk.new' <;> (simp; done)) | apply Blk.drew | apply Blk.drewN | apply Blk.alloc | apply Blk.set | apply Blk.setOther)) <;> (try simp [length_fillTo, length_turnTo]) <;> (try omega)) (by rfl)
  case round =>
    obtain ⟨k, hk, rfl, rfl, hO, hbel⟩ := hrel
    by_cases hlt : k < 16
    · have hk5 : (k : Int) < 16 := by omega
      obtain ⟨b1, o1, rfl, hb1, hc1⟩ := (HA.out.below hbel.out (Nat.le_refl _)).bytes (i := k) (by rw [HLA.out]; exact hlt)
      obtain ⟨b2, o2, rfl, hb2, hc2⟩ := (HB.out.below hbel.out (Nat.le_refl _)).bytes (i := k) (by rw [HLB.out]; exact hlt)
      have hO1 := hO.out.at' k (by simp [fillTo]; omega)
      have cz := hO.out.froz
      have HS : Hid (sOver a b (k + 1) = (sOver a b k + (a[k]'(by rw [HLA.out]; exact hlt)).toNat + (b[k]'(by rw [HLB.out]; exact hlt)).toNat) / 256) := by
        show _ / 256 = _
        simp [List.getD, HLA.out, HLB.out, hlt, Nat.add_assoc]
      have HY : Hid (sByte a b k = UInt8.ofNat (sOver a b k + ((a[k]'(by rw [HLA.out]; exact hlt)).toNat + (b[k]'(by rw [HLB.out]; exact hlt)).toNat))) := by
        show UInt8.ofNat _ = _
        simp [List.getD, HLA.out, HLB.out, hlt]
      have h1 := (a[k]'(by rw [HLA.out]; exact hlt)).toNat_lt
      have h2 := (b[k]'(by rw [HLB.out]; exact hlt)).toNat_lt
      have h3 := sOver_le a b k
      generalize (a[k]'(by rw [HLA.out]; exact hlt)).toNat = x at *
      generalize (b[k]'(by rw [HLB.out]; exact hlt)).toNat = y at *
      generalize sOver a b k = o at *
      have r0 : IntKind.i64.wrap (x : Int) = x := by rw [IntKind.wrap_i64]; omega
      have r1 : IntKind.i64.wrap (y : Int) = y := by rw [IntKind.wrap_i64]; omega
      have r2 : IntKind.i64.wrap ((x : Int) + y) = (x + y : Nat) := by rw [IntKind.wrap_i64]; omega
      have r3 : IntKind.i64.wrap ((o : Int) + (x + y : Nat)) = (o + (x + y) : Nat) := by rw [IntKind.wrap_i64]; omega
      generalize hz : o + (x + y) = z at *
      generalize hxy : x + y = xy at *
      go_wp2
      go_quiet (fail)
      go_wp2
      go_roundw
      case measure => simp [intOf]; omega
      case rel =>
        have hO' := hO.out; have hb' := hbel.out
        refine ⟨k + 1, by omega, by go_num, ?_, Lib.hid (Blk.cast (by (with_reducible try refine Lib.hid ?_); (repeat (with_reducible first | assumption | (apply Blk.new' <;> (simp; done)) | apply Blk.drew | apply Blk.drewN | apply Blk.alloc | apply Blk.set | apply Blk.setOther)) <;> (try simp [length_fillTo, length_turnTo]) <;> (try omega)) ?_), by (with_reducible try refine Lib.hid ?_); (repeat (with_reducible first | assumption | exact Below.refl _ _ | apply Below.drew | apply Below.drewN' | apply Below.setCell | apply Below.alloc)) <;> (try simp [length_fillTo, length_turnTo]) <;> (try omega)⟩
        · rw [HS.out]; congr 1
          rw [show o + x + y = z by omega]; rfl
        · rw [← fillTo_set]
          congr 1
          rw [HY.out]
          unfold By
          rw [UInt8.toNat_ofNat']; congr 1

    · obtain rfl : k = 16 := by omega
      have hO' := hO.out
      rw [fillTo_full] at hO'
      go_wp2
      refine bodyPost_ret (v := .slice (some ⟨w.heap.size, 0, none⟩) 16 16) (by simp [results, Try.results17, go_sem]) rfl ⟨w.heap.size, rfl, Nat.le_refl _, ?_, hbel.out⟩
      simpa [sumM, Function.comp_def] using hO'
end Go.Proofs.Ytlheepcojeaeaaa
