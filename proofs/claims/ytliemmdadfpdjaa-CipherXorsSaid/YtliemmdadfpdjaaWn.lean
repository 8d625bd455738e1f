/-
  The law's walk: texts changed.
-/
import Derived.Test.YtliemmdadfpdjaaWl
import Derived.Test.YtliemmdadfpdjaaWm
namespace Go.Proofs.Ytliemmdadfpdjaa
open Go.RowKit
set_option maxHeartbeats 1000000
set_option linter.unusedVariables false
set_option linter.unusedSimpArgs false

theorem xors_any (key nonce : List UInt8) (ctr : UInt32) (msg : List UInt8) (w : World) (ok on om : Option Addr) (n c m d k e : Nat) (hk : Reads w ok n key) (hn : Reads w on m nonce) (hm : Reads w om k msg) (hc : n ≤ c) (hd : m ≤ d) (he : k ≤ e) (hmx : e ≤ maxLen) :
    Calls Try.prog 5 #[.slice ok n c, .slice on m d, .int .u32 (ctr.toNat : Int), .slice om k e] w fun r w' => r = .returned (.bool true) ∧ Below w.heap.size w w' := by
  obtain rfl : n = key.length := hk.len
  obtain rfl : m = nonce.length := hn.len
  obtain rfl : k = msg.length := hm.len
  have HK := Lib.hid hk; have HN := Lib.hid hn; have HM := Lib.hid hm; have HC := Lib.hid hc; have HD := Lib.hid hd
  clear hk hn hm hc hd he hmx
  by_cases hbig : 100 < key.length ∨ 100 < nonce.length ∨ 1000 < msg.length
  · have hw := works9 w
    by_cases h1 : 100 < key.length
    · have h1' : (100 : Int) < (key.length : Int) := by omega
      clear hbig
      go_enter Try.func5, Try.ntmps5
      go_wp2_with fail
      refine hw.mono ?_
      rintro r w2 ⟨rfl, hb2⟩
      clear hw
      go_wp2
      refine bodyPost_ret (v := .bool true) (by simp [results, Try.results5, go_sem]) rfl ⟨rfl, hb2⟩
    · have h1' : ¬ (100 : Int) < (key.length : Int) := by omega
      by_cases h2 : 100 < nonce.length
      · have h2' : (100 : Int) < (nonce.length : Int) := by omega
        clear hbig
        go_enter Try.func5, Try.ntmps5
        go_wp2_with fail
        refine hw.mono ?_
        rintro r w2 ⟨rfl, hb2⟩
        clear hw
        go_wp2
        refine bodyPost_ret (v := .bool true) (by simp [results, Try.results5, go_sem]) rfl ⟨rfl, hb2⟩
      · have h2' : ¬ (100 : Int) < (nonce.length : Int) := by omega
        have h3' : (1000 : Int) < (msg.length : Int) := by omega
        clear hbig
        go_enter Try.func5, Try.ntmps5
        go_wp2_with fail
        refine hw.mono ?_
        rintro r w2 ⟨rfl, hb2⟩
        clear hw
        go_wp2
        refine bodyPost_ret (v := .bool true) (by simp [results, Try.results5, go_sem]) rfl ⟨rfl, hb2⟩
  · have h1' : ¬ (100 : Int) < (key.length : Int) := by omega
    have h2' : ¬ (100 : Int) < (nonce.length : Int) := by omega
    have h3' : ¬ (1000 : Int) < (msg.length : Int) := by omega
    have HMX : Hid (msg.length ≤ 1000000) := by show _ ≤ _; omega
    clear hbig
    by_cases hfit : key.length = 32 ∧ nonce.length = 12
    · by_cases hover : 4294967296 - ctr.toNat < (msg.length + 63) / 64
      · have HOV := Lib.hid hover; clear hover
        obtain ⟨hf1, hf2⟩ := hfit
        have hx := xor12_big msg ctr w ok on om c d e HMX.out HOV.out
        have hy := refXor13_big msg ctr w ok on om c d e HMX.out HOV.out
        rw [hf1] at h1' ⊢; rw [hf2] at h2' ⊢
        clear hf1 hf2
        go_enter Try.func5, Try.ntmps5
        go_wp2_with fail
        refine hx.mono ?_
        rintro r w1 ⟨rfl, hw1⟩
        rw [hw1]; clear hw1 w1 hx
        go_wp2_with fail
        refine hy.mono ?_
        rintro r w1 ⟨rfl, hw1⟩
        rw [hw1]; clear hw1 w1 hy
        have hs1 := conv_str w none [] 0 0 ⟨rfl, Cells.nil _ _⟩
        go_wp2_with fail
        refine (works9 w).mono ?_
        rintro r w3 ⟨rfl, hb3⟩
        clear hs1
        go_wp2
        refine bodyPost_ret (v := .bool true) (by simp [results, Try.results5, go_sem]) rfl ⟨rfl, hb3⟩
      · have HOV := Lib.hid hover; clear hover
        have HF := Lib.hid hfit; clear hfit
        go_enter Try.func5, Try.ntmps5
        go_wp2_with fail
        refine (xor12 key nonce ctr msg w ok on om _ c _ d _ e HK.out HN.out HM.out HF.out.1 HF.out.2 HC.out HD.out HMX.out HOV.out).mono ?_
        rintro r w1 ⟨o1, n1, c1, rfl, hr1, -, -, hb1⟩
        go_wp2_with fail
        refine (refXor13 key nonce ctr msg w1 ok on om _ c _ d _ e (HK.out.below hb1) (HN.out.below hb1) (HM.out.below hb1) HF.out.1 HF.out.2 HC.out HD.out HMX.out HOV.out).mono ?_
        rintro r w2 ⟨o2, n2, c2, rfl, hr2, -, -, hb2⟩
        have hs1 := conv_str w2 o1 _ n1 c1 (hr1.below hb2)
        have hs2 := conv_str w2 o2 _ n2 c2 hr2
        have hbb := below_step hb1 hb2
        clear hb1 hb2 hr1 hr2
        go_wp2_with fail
        refine (works9 w2).mono ?_
        rintro r w3 ⟨rfl, hb3⟩
        have hend := below_step hbb hb3
        clear hb3 hs1 hs2 hbb
        go_wp2
        refine bodyPost_ret (v := .bool true) (by simp [results, Try.results5, go_sem]) rfl ⟨rfl, hend⟩
    · have HF := Lib.hid hfit; clear hfit
      go_enter Try.func5, Try.ntmps5
      go_wp2_with fail
      refine (xor12_bad (.int .u32 (ctr.toNat : Int)) (.slice om msg.length e) w ok on _ c _ d HF.out).mono ?_
      rintro r w1 ⟨rfl, hw1⟩
      rw [hw1]; clear hw1 w1
      go_wp2_with fail
      refine (refXor13_bad (.int .u32 (ctr.toNat : Int)) (.slice om msg.length e) w ok on _ c _ d HF.out).mono ?_
      rintro r w1 ⟨rfl, hw1⟩
      rw [hw1]; clear hw1 w1
      have hs1 := conv_str w none [] 0 0 ⟨rfl, Cells.nil _ _⟩
      go_wp2_with fail
      refine (works9 w).mono ?_
      rintro r w3 ⟨rfl, hb3⟩
      clear hs1
      go_wp2
      refine bodyPost_ret (v := .bool true) (by simp [results, Try.results5, go_sem]) rfl ⟨rfl, hb3⟩
end Go.Proofs.Ytliemmdadfpdjaa
