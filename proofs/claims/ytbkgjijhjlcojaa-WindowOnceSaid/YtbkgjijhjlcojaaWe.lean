/-
  Walks of windows in the document's answer: bits as truths in a list, numbers of them.
-/
import Derived.Test.YtbkgjijhjlcojaaWd
namespace Go.Proofs.Ytbkgjijhjlcojaa
open Go.RowKit Go.Proofs.Ytbkgjijhjlcojaa.Eager
set_option maxHeartbeats 400000
set_option linter.unusedVariables false
set_option linter.unusedSimpArgs false

/-- a word's bits from a place on -/
def bitsOf (x n : Nat) : List Value := (List.range n).map fun j => .bool (x.testBit j)

theorem bitsOf_succ (x n : Nat) : bitsOf x (n + 1) = bitsOf x n ++ [.bool (x.testBit n)] := by simp [bitsOf, List.range_succ]
theorem length_bitsOf (x n : Nat) : (bitsOf x n).length = n := by simp [bitsOf]

theorem halve (x k : Nat) : ((x / 2 ^ k : Nat) : Int) / 2 = ((x / 2 ^ (k + 1) : Nat) : Int) := by
  rw [Nat.pow_succ, ← Nat.div_div_eq_div_mul]
  generalize x / 2 ^ k = z
  omega
theorem odd_bit (x k : Nat) : (((x / 2 ^ k : Nat) : Int) % 2 == 1) = x.testBit k := by
  rw [Nat.testBit_eq_decide_div_mod_eq]
  generalize x / 2 ^ k = z
  rw [Bool.eq_iff_iff]; simp; omega

theorem wrap_small (z : Nat) (h : z < 18446744073709551616) : IntKind.u64.wrap (z : Int) = z := by
  rw [IntKind.wrap_u64]; omega

theorem bits17 (t : Int) (x y : Nat) (w : World) (hx : Hid (x < 18446744073709551616)) (hy : Hid (y < 18446744073709551616)) : Calls Try.prog 17 #[.agg #[.int .i64 t, .int .u64 (x : Int), .int .u64 (y : Int)]] w fun e w' => ∃ oa c, e = .returned (.slice oa (bitsOf x 64 ++ bitsOf y 64).length c) ∧ Cells w' oa (bitsOf x 64 ++ bitsOf y 64) ∧ Below w.heap.size w w' ∧ ∀ b o, oa = some ⟨b, o, none⟩ → w.heap.size ≤ b := by
  obtain ⟨i4, hi, hz0, hz1, hz2⟩ := info_parts (show (Try.prog.info? 4).map (fun i => (i.zero, i.size, i.bytes)) = some (some (.bool false), 1, 1) from by kernel_rfl)
  go_enter Try.func17, Try.ntmps17
  go_wp2
  go_quiet (fail)
  have hbel0 : Below w.heap.size w ((w.alloc (.cells #[.int .i64 t, .int .u64 (x : Int), .int .u64 (y : Int)] 24)).drewN nq) := below_drewN ((Below.refl _ _).alloc (Nat.le_refl _) _) nq
  go_wp2
  go_loopw [3, 4, 6] (fun v lo i wr => ∃ k : Nat, k ≤ 64 ∧ i = .int .i64 k ∧ lo = .int .u64 ((x / 2 ^ k : Nat) : Int) ∧ wr.ownsRow w.heap.size 4 1 v (k) (bitsOf x k) ∧ Below w.heap.size w wr)
    (fun _ _ i _ => 64 - (intOf i).toNat)
  case atStart => exact ⟨0, by omega, rfl, by simp, World.ownsRow_nil _ _ _ _, hbel0⟩
  case round =>
    obtain ⟨k, hk, rfl, rfl, hown, hbel⟩ := hrel
    by_cases hlt : k < 64
    · have HH := halve x k
      have HO := odd_bit x k
      have HV := wrap_small (x / 2 ^ (k + 1)) (Nat.lt_of_le_of_lt (Nat.div_le_self _ _) hx.out)
      have HS := Lib.hid (bitsOf_succ x k)
      have HOW := Lib.hid hown; have HBE := Lib.hid hbel; clear hown hbel hbel0
      generalize x / 2 ^ k = z at *
      generalize hz' : x / 2 ^ (k + 1) = z' at *
      have HZ' := Lib.hid hz'; clear hz'
      generalize x.testBit k = b at *
      have hsz : w.heap.size ≤ wr.heap.size := HBE.out.size
      have hown1 := HOW.out.alloc (.cells #[Value.bool b] 4)
      have hcells : Cells (wr.alloc (.cells #[Value.bool b] 4)) (some ⟨wr.heap.size, 0, none⟩) [Value.bool b] := Cells.new (cs := [Value.bool b])
      have HC := Lib.hid hcells; have HO1 := Lib.hid hown1; clear hcells hown1
      go_wp2_with (at_builtin; refine wpList_append_cells rfl (.tmp 16) (.tmp 20) 40 rfl w.heap.size 4 i4 (.bool false) 1 Try.underlying40 hi hz0 hz1 hz2 rfl u3 (k) (bitsOf x k) rfl HO1.out (some ⟨wr.heap.size, 0, none⟩) 1 [.bool b] rfl HC.out (by simp [Value.oneCell']) (by simp [maxLen]; omega) (by simp; omega) (by simp; omega) ?_)
      intro v' w' hown' hgrow
      have HB2 : Hid (Below w.heap.size w w') := by
        refine ((HBE.out.alloc hsz _).grown hgrow (by simp; omega) ?_)
        intro g hg
        exact (HOW.out.lt _ hg).1
      have HO2 : Hid (w'.ownsRow w.heap.size 4 1 v' (k + 1) (bitsOf x (k + 1))) := by
        rw [HS.out]; exact hown'
      clear hown' hgrow
      go_wp2
      go_roundw
      case rel => exact ⟨k + 1, by omega, by go_num, by rw [HZ'.out], HO2.out, HB2.out⟩
      case measure => simp [intOf]; omega
    · obtain rfl : k = 64 := by omega
      have HW := Lib.hid hown; have HBE := Lib.hid hbel; clear hown hbel hbel0 hk hlt
      generalize ((x / 2 ^ 64 : Nat) : Int) = xx
      rw [show ((64 : Nat) : Int) = 64 from rfl]
      go_wp2
      go_loopw [3, 5, 7] (fun v lo i wr => ∃ k : Nat, k ≤ 64 ∧ i = .int .i64 k ∧ lo = .int .u64 ((y / 2 ^ k : Nat) : Int) ∧ wr.ownsRow w.heap.size 4 1 v (64 + k) (bitsOf x 64 ++ bitsOf y k) ∧ Below w.heap.size w wr)
        (fun _ _ i _ => 64 - (intOf i).toNat)
      case atStart => exact ⟨0, by omega, rfl, by simp, by simpa [bitsOf] using HW.out, HBE.out⟩
      case round =>
        obtain ⟨k, hk, rfl, rfl, hown, hbel⟩ := hrel
        by_cases hlt : k < 64
        · have HH := halve y k
          have HO := odd_bit y k
          have HV := wrap_small (y / 2 ^ (k + 1)) (Nat.lt_of_le_of_lt (Nat.div_le_self _ _) hy.out)
          have HS := Lib.hid (bitsOf_succ y k)
          have HOW := Lib.hid hown; have HBE := Lib.hid hbel; clear hown hbel HW
          generalize y / 2 ^ k = z at *
          generalize hz' : y / 2 ^ (k + 1) = z' at *
          have HZ' := Lib.hid hz'; clear hz'
          generalize y.testBit k = b at *
          have hsz : w.heap.size ≤ wr.heap.size := HBE.out.size
          have hown1 := HOW.out.alloc (.cells #[Value.bool b] 4)
          have hcells : Cells (wr.alloc (.cells #[Value.bool b] 4)) (some ⟨wr.heap.size, 0, none⟩) [Value.bool b] := Cells.new (cs := [Value.bool b])
          have HC := Lib.hid hcells; have HO1 := Lib.hid hown1; clear hcells hown1
          go_wp2_with (at_builtin; refine wpList_append_cells rfl (.tmp 28) (.tmp 32) 40 rfl w.heap.size 4 i4 (.bool false) 1 Try.underlying40 hi hz0 hz1 hz2 rfl u3 (64 + k) (bitsOf x 64 ++ bitsOf y k) rfl HO1.out (some ⟨wr.heap.size, 0, none⟩) 1 [.bool b] rfl HC.out (by simp [Value.oneCell']) (by simp [maxLen]; omega) (by simp; omega) (by simp; omega) ?_)
          intro v' w' hown' hgrow
          have HB2 : Hid (Below w.heap.size w w') := by
            refine ((HBE.out.alloc hsz _).grown hgrow (by simp; omega) ?_)
            intro g hg
            exact (HOW.out.lt _ hg).1
          have HO2 : Hid (w'.ownsRow w.heap.size 4 1 v' (64 + k + 1) (bitsOf x 64 ++ bitsOf y (k + 1))) := by
            rw [HS.out]; exact (by rw [← List.append_assoc]; exact hown')
          clear hown' hgrow
          go_wp2
          go_roundw
          case rel => exact ⟨k + 1, by omega, by go_num, by rw [HZ'.out], HO2.out, HB2.out⟩
          case measure => simp [intOf]; omega
        · obtain rfl : k = 64 := by omega
          have HOW := Lib.hid hown; clear hown HW
          go_wp2
          go_ret
          obtain ⟨oa', c', hv, hn, hcs⟩ := Cells.of_owns HOW.out
          refine ⟨oa', c', congrArg Ending.returned hv, hcs, hbel, fun b o e => ?_⟩
          have h2 := HOW.out
          rw [show u3 = _ from hv, e] at h2
          exact (h2.lt b rfl).1
end Go.Proofs.Ytbkgjijhjlcojaa
