/-
  The laws' walks: quarters and blocks.
-/
import Derived.Test.YtliemmdadfpdjaaWk
import Derived.Test.YtliemmdadfpdjaaWj
namespace Go.Proofs.Ytliemmdadfpdjaa
open Go.RowKit
set_option maxHeartbeats 1000000
set_option linter.unusedVariables false
set_option linter.unusedSimpArgs false

theorem quarters_any (a b c d : UInt32) (w : World) : Calls Try.prog 3 #[.int .u32 (a.toNat : Int), .int .u32 (b.toNat : Int), .int .u32 (c.toNat : Int), .int .u32 (d.toNat : Int)] w fun r w' => r = .returned (.bool true) ∧ Below w.heap.size w w' := by
  go_enter Try.func3, Try.ntmps3
  go_wp2_with fail
  refine (quarter7 a b c d w).mono ?_
  rintro r w' ⟨rfl, hw'⟩
  rw [hw']; clear hw' w'
  obtain ⟨q, hq⟩ : ∃ q, qM ⟨a, b, c, d⟩ = q := ⟨_, rfl⟩
  rw [hq]
  unfold Q4.val U32
  have HQ := Lib.hid hq; clear hq
  go_wp2_with fail
  refine (refQuarter8 a b c d w).mono ?_
  rintro r w1 ⟨rfl, hb1⟩
  rw [HQ.out]
  unfold Q4.val U32
  have HB1 := Lib.hid hb1; clear hb1
  go_wp2_with fail
  refine (works9 w1).mono ?_
  rintro r w2 ⟨rfl, hb2⟩
  have hend := below_step HB1.out hb2
  clear hb2
  go_wp2
  refine bodyPost_ret (v := .bool true) (by simp [results, Try.results3, go_sem]) rfl ⟨rfl, hend⟩

theorem conv_str (W : World) (oa : Option Addr) (l : List UInt8) (n c : Nat) (h : Reads W oa n l) : (convert 27 9 (.slice oa n c)).run Try.prog W = .ok (.string (str l)) W :=
  run_convert_cells W 27 9 5 rfl rfl rfl oa l n c h.len h.cells

theorem blocks_any (key nonce : List UInt8) (ctr : UInt32) (w : World) (ok on : Option Addr) (n c m d : Nat) (hk : Reads w ok n key) (hn : Reads w on m nonce) (hc : n ≤ c) (hd : m ≤ d) :
    Calls Try.prog 4 #[.slice ok n c, .slice on m d, .int .u32 (ctr.toNat : Int)] w fun r w' => r = .returned (.bool true) ∧ Below w.heap.size w w' := by
  obtain rfl : n = key.length := hk.len
  obtain rfl : m = nonce.length := hn.len
  have HK := Lib.hid hk; have HN := Lib.hid hn; have HC := Lib.hid hc; have HD := Lib.hid hd
  clear hk hn hc hd
  by_cases hbig : 100 < key.length ∨ 100 < nonce.length
  · have hw := works9 w
    by_cases h1 : 100 < key.length
    · have h1' : (100 : Int) < (key.length : Int) := by omega
      clear hbig
      go_enter Try.func4, Try.ntmps4
      go_wp2_with fail
      refine hw.mono ?_
      rintro r w2 ⟨rfl, hb2⟩
      clear hw
      go_wp2
      refine bodyPost_ret (v := .bool true) (by simp [results, Try.results4, go_sem]) rfl ⟨rfl, hb2⟩
    · have h1' : ¬ (100 : Int) < (key.length : Int) := by omega
      have h2' : (100 : Int) < (nonce.length : Int) := by omega
      clear hbig
      go_enter Try.func4, Try.ntmps4
      go_wp2_with fail
      refine hw.mono ?_
      rintro r w2 ⟨rfl, hb2⟩
      clear hw
      go_wp2
      refine bodyPost_ret (v := .bool true) (by simp [results, Try.results4, go_sem]) rfl ⟨rfl, hb2⟩
  · have h1' : ¬ (100 : Int) < (key.length : Int) := by omega
    have h2' : ¬ (100 : Int) < (nonce.length : Int) := by omega
    clear hbig
    by_cases hfit : key.length = 32 ∧ nonce.length = 12
    · have HF := Lib.hid hfit; clear hfit
      go_enter Try.func4, Try.ntmps4
      go_wp2_with fail
      refine (block10 key nonce ctr w ok on _ c _ d HK.out HN.out HF.out.1 HF.out.2 HC.out HD.out).mono ?_
      rintro r w1 ⟨o1, n1, c1, rfl, hr1, -, -, hb1⟩
      go_wp2_with fail
      refine (block11 key nonce ctr w1 ok on _ c _ d (HK.out.below hb1) (HN.out.below hb1) HF.out.1 HF.out.2 HC.out HD.out).mono ?_
      rintro r w2 ⟨o2, n2, c2, rfl, hr2, -, -, -, hb2⟩
      have hs1 := conv_str w2 o1 _ n1 c1 (hr1.below hb2)
      have hs2 := conv_str w2 o2 _ n2 c2 hr2
      have hbb := below_step hb1 hb2
      clear hb1 hb2 hr1 hr2
      go_wp2_with fail
      refine (works9 w2).mono ?_
      rintro r w3 ⟨rfl, hb3⟩
      have hend := below_step hbb hb3
      clear hb3 hs1 hs2 hbb
      go_wp2
      refine bodyPost_ret (v := .bool true) (by simp [results, Try.results4, go_sem]) rfl ⟨rfl, hend⟩
    · have HF := Lib.hid hfit; clear hfit
      go_enter Try.func4, Try.ntmps4
      go_wp2_with fail
      refine (block10_bad (.int .u32 (ctr.toNat : Int)) w ok on _ c _ d HF.out).mono ?_
      rintro r w1 ⟨rfl, hw1⟩
      rw [hw1]; clear hw1 w1
      go_wp2_with fail
      refine (block11_bad (.int .u32 (ctr.toNat : Int)) w ok on _ c _ d HF.out).mono ?_
      rintro r w1 ⟨rfl, hw1⟩
      rw [hw1]; clear hw1 w1
      have hs1 := conv_str w none [] 0 0 ⟨rfl, Cells.nil _ _⟩
      go_wp2_with fail
      refine (works9 w).mono ?_
      rintro r w3 ⟨rfl, hb3⟩
      clear hs1
      go_wp2
      refine bodyPost_ret (v := .bool true) (by simp [results, Try.results4, go_sem]) rfl ⟨rfl, hb3⟩
end Go.Proofs.Ytliemmdadfpdjaa
