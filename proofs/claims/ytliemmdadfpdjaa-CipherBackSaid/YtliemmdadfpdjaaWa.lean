/-
  Walks of words of 32 bits: turned round; quarters.
-/
import Derived.Test.YtliemmdadfpdjaaRows
import Derived.Test.YtliemmdadfpdjaaRowV
import Derived.Test.YtliemmdadfpdjaaPlan
namespace Go.Proofs.Ytliemmdadfpdjaa
open Go.RowKit
set_option maxHeartbeats 1000000
set_option linter.unusedVariables false
set_option linter.unusedSimpArgs false

def U32 (x : UInt32) : Value := .int .u32 (x.toNat : Int)
theorem add_u32 (a b : UInt32) : IntKind.u32.wrap ((a.toNat : Int) + (b.toNat : Int)) = ((a + b).toNat : Int) := by
  rw [IntKind.wrap_u32, UInt32.toNat_add]; omega
theorem xor_u32 (a b : UInt32) : bits .xor .u32 (a.toNat : Int) (b.toNat : Int) = ((a ^^^ b).toNat : Int) := by
  rw [u32_xor_nat _ _ a.toNat_lt b.toNat_lt, UInt32.toNat_xor]
theorem or_u32 (a b : UInt32) : bits .or .u32 (a.toNat : Int) (b.toNat : Int) = ((a ||| b).toNat : Int) := by
  rw [u32_or_nat _ _ a.toNat_lt b.toNat_lt, UInt32.toNat_or]
theorem shl_u32 (x : UInt32) {q : Nat} (h : q < 32) : IntKind.u32.wrap ((x.toNat : Int) * 2 ^ q) = ((x <<< UInt32.ofNat q).toNat : Int) := by
  rw [IntKind.wrap_u32, UInt32.toNat_shiftLeft, UInt32.toNat_ofNat', Nat.mod_eq_of_lt (show q < 2 ^ 32 by omega), Nat.mod_eq_of_lt h, Nat.shiftLeft_eq]
  rw [Int.natCast_emod, Int.natCast_mul, Int.natCast_pow]; rfl
theorem shr_u32 (x : UInt32) {q : Nat} (h : q < 32) : (x.toNat : Int) / 2 ^ q = ((x >>> UInt32.ofNat q).toNat : Int) := by
  rw [UInt32.toNat_shiftRight, UInt32.toNat_ofNat', Nat.mod_eq_of_lt (show q < 2 ^ 32 by omega), Nat.mod_eq_of_lt h, Nat.shiftRight_eq_div_pow]
  rw [Int.natCast_ediv, Int.natCast_pow]; rfl

/-- a word turned round -/
def rotM (x : UInt32) (k : Nat) : UInt32 := (x <<< UInt32.ofNat k) ||| (x >>> UInt32.ofNat (32 - k))

theorem rot_val (x : UInt32) (k : Nat) (h0 : 0 < k) (h : k < 32) : bits .or .u32 ((x.toNat : Int) * 2 ^ k % 4294967296) ((x.toNat : Int) / 2 ^ (32 - k)) = ((rotM x k).toNat : Int) := by
  have h1 := shl_u32 x h
  rw [IntKind.wrap_u32] at h1
  rw [h1, shr_u32 x (show 32 - k < 32 by omega), or_u32]; rfl

theorem rot14 (x : UInt32) (k : Nat) (w : World) (hk : k = 16 ∨ k = 12 ∨ k = 8 ∨ k = 7) : Calls Try.prog 14 #[.int .u32 (x.toNat : Int), .int .i64 (k : Int)] w fun r w' => r = .returned (U32 (rotM x k)) ∧ w' = w := by
  rcases hk with rfl | rfl | rfl | rfl
  · have hv := rot_val x 16 (by omega) (by omega)
    simp only [Nat.reduceSub, Int.reducePow] at hv
    have HV := Lib.hid hv; clear hv
    have hb : bits BinOp.and IntKind.u64 16 31 = 16 := by decide
    go_enter Try.func14, Try.ntmps14
    go_wp2
    refine bodyPost_ret (results_tmp rfl _ _ _) rfl ⟨?_, rfl⟩
    unfold U32
    rw [← HV.out]; rfl
  · have hv := rot_val x 12 (by omega) (by omega)
    simp only [Nat.reduceSub, Int.reducePow] at hv
    have HV := Lib.hid hv; clear hv
    have hb : bits BinOp.and IntKind.u64 12 31 = 12 := by decide
    go_enter Try.func14, Try.ntmps14
    go_wp2
    refine bodyPost_ret (results_tmp rfl _ _ _) rfl ⟨?_, rfl⟩
    unfold U32
    rw [← HV.out]; rfl
  · have hv := rot_val x 8 (by omega) (by omega)
    simp only [Nat.reduceSub, Int.reducePow] at hv
    have HV := Lib.hid hv; clear hv
    have hb : bits BinOp.and IntKind.u64 8 31 = 8 := by decide
    go_enter Try.func14, Try.ntmps14
    go_wp2
    refine bodyPost_ret (results_tmp rfl _ _ _) rfl ⟨?_, rfl⟩
    unfold U32
    rw [← HV.out]; rfl
  · have hv := rot_val x 7 (by omega) (by omega)
    simp only [Nat.reduceSub, Int.reducePow] at hv
    have HV := Lib.hid hv; clear hv
    have hb : bits BinOp.and IntKind.u64 7 31 = 7 := by decide
    go_enter Try.func14, Try.ntmps14
    go_wp2
    refine bodyPost_ret (results_tmp rfl _ _ _) rfl ⟨?_, rfl⟩
    unfold U32
    rw [← HV.out]; rfl

theorem left15 (x : UInt32) (k : Nat) (w : World) (hk : k = 16 ∨ k = 12 ∨ k = 8 ∨ k = 7) : Calls Try.prog 15 #[.int .u32 (x.toNat : Int), .int .u64 (k : Int)] w fun r w' => r = .returned (U32 (rotM x k)) ∧ w' = w := by
  rcases hk with rfl | rfl | rfl | rfl
  · have hv := rot_val x 16 (by omega) (by omega)
    simp only [Nat.reduceSub, Int.reducePow] at hv
    have HV := Lib.hid hv; clear hv
    go_enter Try.func15, Try.ntmps15
    go_wp2
    refine bodyPost_ret (results_tmp rfl _ _ _) rfl ⟨?_, rfl⟩
    unfold U32
    rw [← HV.out]; rfl
  · have hv := rot_val x 12 (by omega) (by omega)
    simp only [Nat.reduceSub, Int.reducePow] at hv
    have HV := Lib.hid hv; clear hv
    go_enter Try.func15, Try.ntmps15
    go_wp2
    refine bodyPost_ret (results_tmp rfl _ _ _) rfl ⟨?_, rfl⟩
    unfold U32
    rw [← HV.out]; rfl
  · have hv := rot_val x 8 (by omega) (by omega)
    simp only [Nat.reduceSub, Int.reducePow] at hv
    have HV := Lib.hid hv; clear hv
    go_enter Try.func15, Try.ntmps15
    go_wp2
    refine bodyPost_ret (results_tmp rfl _ _ _) rfl ⟨?_, rfl⟩
    unfold U32
    rw [← HV.out]; rfl
  · have hv := rot_val x 7 (by omega) (by omega)
    simp only [Nat.reduceSub, Int.reducePow] at hv
    have HV := Lib.hid hv; clear hv
    go_enter Try.func15, Try.ntmps15
    go_wp2
    refine bodyPost_ret (results_tmp rfl _ _ _) rfl ⟨?_, rfl⟩
    unfold U32
    rw [← HV.out]; rfl

/-- a quarter -/
structure Q4 where
  a : UInt32
  b : UInt32
  c : UInt32
  d : UInt32
def qStep (q : Q4) (i : Nat) (k : Nat) : Q4 :=
  if i % 2 = 0 then ⟨q.a + q.b, q.b, q.c, rotM (q.d ^^^ (q.a + q.b)) k⟩ else ⟨q.a, rotM (q.b ^^^ (q.c + q.d)) k, q.c + q.d, q.d⟩
def qM (q : Q4) : Q4 :=
  let a1 := q.a + q.b
  let d1 := rotM (q.d ^^^ a1) 16
  let c1 := q.c + d1
  let b1 := rotM (q.b ^^^ c1) 12
  let a2 := a1 + b1
  let d2 := rotM (d1 ^^^ a2) 8
  let c2 := c1 + d2
  ⟨a2, rotM (b1 ^^^ c2) 7, c2, d2⟩
theorem qM_steps (q : Q4) : qStep (qStep (qStep (qStep q 0 16) 1 12) 2 8) 3 7 = qM q := by
  simp [qStep, qM]
def Q4.val (q : Q4) : Value := .tuple #[U32 q.a, U32 q.b, U32 q.c, U32 q.d]

theorem quarter7 (a b c d : UInt32) (w : World) : Calls Try.prog 7 #[.int .u32 (a.toNat : Int), .int .u32 (b.toNat : Int), .int .u32 (c.toNat : Int), .int .u32 (d.toNat : Int)] w fun r w' => r = .returned (qM ⟨a, b, c, d⟩).val ∧ w' = w := by
  go_enter Try.func7, Try.ntmps7
  have r0 := add_u32 a b
  obtain ⟨a1, ha1⟩ : ∃ z, a + b = z := ⟨_, rfl⟩
  rw [ha1] at r0
  have r1 := xor_u32 d a1
  obtain ⟨x1, hx1⟩ : ∃ z, d ^^^ a1 = z := ⟨_, rfl⟩
  rw [hx1] at r1
  have Ha1 := Lib.hid ha1; have Hx1 := Lib.hid hx1; clear ha1 hx1
  go_wp2_with fail
  refine (rot14 x1 16 w (by omega)).mono ?_
  rintro r w' ⟨rfl, hw'⟩
  rw [hw']; clear hw' w'
  obtain ⟨d1, hd1⟩ : ∃ z, rotM x1 16 = z := ⟨_, rfl⟩
  rw [hd1]
  have Hd1 := Lib.hid hd1; clear hd1
  unfold U32
  have r2 := add_u32 c d1
  obtain ⟨c1, hc1⟩ : ∃ z, c + d1 = z := ⟨_, rfl⟩
  rw [hc1] at r2
  have r3 := xor_u32 b c1
  obtain ⟨x2, hx2⟩ : ∃ z, b ^^^ c1 = z := ⟨_, rfl⟩
  rw [hx2] at r3
  have Hc1 := Lib.hid hc1; have Hx2 := Lib.hid hx2; clear hc1 hx2
  go_wp2_with fail
  refine (rot14 x2 12 w (by omega)).mono ?_
  rintro r w' ⟨rfl, hw'⟩
  rw [hw']; clear hw' w'
  obtain ⟨b1, hb1⟩ : ∃ z, rotM x2 12 = z := ⟨_, rfl⟩
  rw [hb1]
  have Hb1 := Lib.hid hb1; clear hb1
  unfold U32
  have r4 := add_u32 a1 b1
  obtain ⟨a2, ha2⟩ : ∃ z, a1 + b1 = z := ⟨_, rfl⟩
  rw [ha2] at r4
  have r5 := xor_u32 d1 a2
  obtain ⟨x3, hx3⟩ : ∃ z, d1 ^^^ a2 = z := ⟨_, rfl⟩
  rw [hx3] at r5
  have Ha2 := Lib.hid ha2; have Hx3 := Lib.hid hx3; clear ha2 hx3
  go_wp2_with fail
  refine (rot14 x3 8 w (by omega)).mono ?_
  rintro r w' ⟨rfl, hw'⟩
  rw [hw']; clear hw' w'
  obtain ⟨d2, hd2⟩ : ∃ z, rotM x3 8 = z := ⟨_, rfl⟩
  rw [hd2]
  have Hd2 := Lib.hid hd2; clear hd2
  unfold U32
  have r6 := add_u32 c1 d2
  obtain ⟨c2, hc2⟩ : ∃ z, c1 + d2 = z := ⟨_, rfl⟩
  rw [hc2] at r6
  have r7 := xor_u32 b1 c2
  obtain ⟨x4, hx4⟩ : ∃ z, b1 ^^^ c2 = z := ⟨_, rfl⟩
  rw [hx4] at r7
  have Hc2 := Lib.hid hc2; have Hx4 := Lib.hid hx4; clear hc2 hx4
  go_wp2_with fail
  refine (rot14 x4 7 w (by omega)).mono ?_
  rintro r w' ⟨rfl, hw'⟩
  rw [hw']; clear hw' w'
  obtain ⟨b2, hb2⟩ : ∃ z, rotM x4 7 = z := ⟨_, rfl⟩
  rw [hb2]
  have Hb2 := Lib.hid hb2; clear hb2
  unfold U32
  clear r0 r1 r2 r3 r4 r5 r6 r7
  have HF : Hid ((qM ⟨a, b, c, d⟩).val = .tuple #[U32 a2, U32 b2, U32 c2, U32 d2]) := by
    show (qM ⟨a, b, c, d⟩).val = _
    simp only [qM, Q4.val, Ha1.out, Hx1.out, Hd1.out, Hc1.out, Hx2.out, Hb1.out, Ha2.out, Hx3.out, Hd2.out, Hc2.out, Hx4.out, Hb2.out]
  go_wp2
  refine bodyPost_ret (v := .tuple #[U32 a2, U32 b2, U32 c2, U32 d2]) (by simp [results, Try.results7, go_sem, U32]) rfl ⟨?_, rfl⟩
  rw [HF.out]
end Go.Proofs.Ytliemmdadfpdjaa
