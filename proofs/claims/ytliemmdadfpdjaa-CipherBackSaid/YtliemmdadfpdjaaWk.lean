/-
  Walk: the chapter's example.
-/
import Derived.Test.YtliemmdadfpdjaaWh
namespace Go.Proofs.Ytliemmdadfpdjaa
open Go.RowKit Go.Proofs.Ytliemmdadfpdjaa.Plan Go.Proofs.Ytliemmdadfpdjaa.Eager
set_option maxHeartbeats 1000000
set_option linter.unusedVariables false
set_option linter.unusedSimpArgs false

def key0 : List UInt8 := List.replicate 32 0
def nonce0 : List UInt8 := List.replicate 12 0
def z32v : List Value := key0.map By
def z12v : List Value := nonce0.map By
def z1v : List Value := [0].map By
theorem ex_quarter : qM ⟨0x11111111, 0x01020304, 0x9b8d6f43, 0x01234567⟩ = ⟨0xea2a92f4, 0xcb1cf8ce, 0x4581472e, 0x5881c4bb⟩ := by kernel_rfl
theorem ex_xor : xorM key0 nonce0 0 [0] = [118] := by kernel_rfl
theorem mk32 (w : World) : (Instr.makeSlice 27 (.int .i64 32) (.int .i64 32)).run Try.prog w = .ok (.slice (some ⟨w.heap.size, 0, none⟩) 32 32) (w.alloc (.cells z32v.toArray 5)) :=
  run_make_blk w 27 5 (.int .u8 0) 1 rfl (by kernel_rfl) rfl .i64 .i64 32 (by omega) (by simp [maxLen])
theorem mk12 (w : World) : (Instr.makeSlice 27 (.int .i64 12) (.int .i64 12)).run Try.prog w = .ok (.slice (some ⟨w.heap.size, 0, none⟩) 12 12) (w.alloc (.cells z12v.toArray 5)) :=
  run_make_blk w 27 5 (.int .u8 0) 1 rfl (by kernel_rfl) rfl .i64 .i64 12 (by omega) (by simp [maxLen])

theorem works9 (w : World) : Calls Try.prog 9 #[] w fun r w' => r = .returned (.bool true) ∧ Below w.heap.size w w' := by
  have hmk32 := mk32; have hmk12 := mk12
  have hq : Hid (∀ W, Calls Try.prog 7 #[.int .u32 286331153, .int .u32 16909060, .int .u32 2609737539, .int .u32 19088743] W fun r w' => r = .returned (.tuple #[.int .u32 3928658676, .int .u32 3407673550, .int .u32 1166100270, .int .u32 1484899515]) ∧ w' = W) := fun W => by
    have := quarter7 0x11111111 0x01020304 0x9b8d6f43 0x01234567 W
    rw [ex_quarter] at this
    exact this
  go_enter Try.func9, Try.ntmps9
  go_wp2_with fail
  refine (hq.out w).mono ?_
  rintro r w' ⟨rfl, hw'⟩
  rw [hw']; clear hw' w'
  go_wp2_with fail
  refine (block10_bad (.int .u32 0) w none none 0 0 0 0 (by omega)).mono ?_
  rintro r w' ⟨rfl, hw'⟩
  rw [hw']; clear hw' w'
  go_wp2_with fail
  refine wp_region_plan none [] [] (.three 0 (.two 1 (.one 2 (.one 3 (.take 4 (.take 5 (.take 6 (.take 7 (.take 8 .done))))))) 2 (.one 1 (.one 3 (.take 4 (.take 5 (.take 6 (.take 7 (.take 8 .done)))))))) 1 (.two 0 (.one 2 (.one 3 (.take 4 (.take 5 (.take 6 (.take 7 (.take 8 .done))))))) 2 (.one 0 (.one 3 (.take 4 (.take 5 (.take 6 (.take 7 (.take 8 .done)))))))) 2 (.two 0 (.one 1 (.one 3 (.take 4 (.take 5 (.take 6 (.take 7 (.take 8 .done))))))) 1 (.one 0 (.one 3 (.take 4 (.take 5 (.take 6 (.take 7 (.take 8 .done))))))))) (by kernel_rfl) (by kernel_rfl) (fun _ _ dd _ _ h => by cases dd <;> exact h) ?_
  intro W0 hW0
  have hbV : Below w.heap.size w W0 := by rw [hW0]; exact below_drew w
  clear hW0
  generalize W0 = V at *
  refine pl_three rfl rfl rfl rfl rfl rfl (fun K hK => ?_) (fun K hK => ?_) (fun K hK => ?_)
  · go_simp
    refine hK _ _ ((Below.refl _ _).alloc (Nat.le_refl _) _ : Rel none V _) ?_
    clear hK
    have hZ32 : Blk (V.alloc (.cells z32v.toArray 5)) V.heap.size z32v := Blk.new' rfl
    have hbV := hbV.alloc hbV.size (.cells z32v.toArray 5)
    obtain ⟨b0, hb0⟩ : ∃ b, V.heap.size = b := ⟨_, rfl⟩
    rw [hb0] at hZ32 ⊢
    clear hb0
    generalize V.alloc (.cells z32v.toArray 5) = V0 at *
    refine pl_two rfl rfl rfl rfl (fun K hK => ?_) (fun K hK => ?_)
    · go_simp
      refine hK _ _ ((Below.refl _ _).alloc (Nat.le_refl _) _ : Rel none V0 _) ?_
      clear hK
      have hZ32 := hZ32.alloc (.cells z12v.toArray 5)
      have hZ12 : Blk (V0.alloc (.cells z12v.toArray 5)) V0.heap.size z12v := Blk.new' rfl
      have hbV := hbV.alloc hbV.size (.cells z12v.toArray 5)
      obtain ⟨b1, hb1⟩ : ∃ b, V0.heap.size = b := ⟨_, rfl⟩
      rw [hb1] at hZ12 ⊢
      clear hb1
      generalize V0.alloc (.cells z12v.toArray 5) = V01 at *
      refine pl_one rfl rfl (fun K hK => ?_)
      go_simp
      refine hK _ _ ((Below.refl _ _).alloc (Nat.le_refl _) _ : Rel none V01 _) ?_
      clear hK
      have hZ32 := hZ32.alloc (.cells #[Value.int .u8 0] 5)
      have hZ12 := hZ12.alloc (.cells #[Value.int .u8 0] 5)
      have hZ1 : Blk (V01.alloc (.cells #[Value.int .u8 0] 5)) V01.heap.size z1v := Blk.new' rfl
      have hbV := hbV.alloc hbV.size (.cells #[Value.int .u8 0] 5)
      obtain ⟨b2, hb2⟩ : ∃ b, V01.heap.size = b := ⟨_, rfl⟩
      rw [hb2] at hZ1 ⊢
      clear hb2
      generalize V01.alloc (.cells #[Value.int .u8 0] 5) = V012 at *
      refine pl_one rfl rfl (fun K hK => ?_)
      go_simp
      refine (xor12 key0 nonce0 0 [0] V012 (some ⟨b0, 0, none⟩) (some ⟨b1, 0, none⟩) (some ⟨b2, 0, none⟩) 32 32 12 12 1 1 ⟨rfl, hZ32.cells⟩ ⟨rfl, hZ12.cells⟩ ⟨rfl, hZ1.cells⟩ rfl rfl (Nat.le_refl _) (Nat.le_refl _) (by decide) (by decide)).mono ?_
      rintro r Y ⟨oy, ny, cy, rfl, hry, hny, hmy, hby⟩
      refine hK _ _ (hby : Rel none V012 Y) ?_
      have hbY := below_step hbV hby
      clear hK hby hbV hZ32 hZ12 hZ1
      rw [ex_xor] at hry
      obtain rfl : ny = 1 := hry.len
      (refine pl_take (d := 19) (v := ?_) rfl rfl rfl ?_ ?_; rotate_left; (focus ((intro w' hb0 hw'; go_simp) <;> with_reducible rfl)); simp only [Act.put, List.setIfInBounds_toArray, List.set_cons_zero, List.set_cons_succ])
      (refine pl_take (d := 24) (v := ?_) rfl rfl rfl ?_ ?_; rotate_left; (focus ((intro w' hb0 hw'; go_simp) <;> with_reducible rfl)); simp only [Act.put, List.setIfInBounds_toArray, List.set_cons_zero, List.set_cons_succ])
      (refine pl_take (d := 25) (v := ?_) rfl rfl rfl ?_ ?_; rotate_left; (focus ((intro w' hb0 hw'; go_simp) <;> with_reducible rfl)); simp only [Act.put, List.setIfInBounds_toArray, List.set_cons_zero, List.set_cons_succ])
      (refine pl_take (d := 7) (v := ?_) rfl rfl rfl ?_ ?_; rotate_left; (focus ((intro w' hb0 hw'; go_simp) <;> with_reducible rfl)); simp only [Act.put, List.setIfInBounds_toArray, List.set_cons_zero, List.set_cons_succ])
      (refine pl_take (d := 8) (v := ?_) rfl rfl rfl ?_ ?_; rotate_left; (focus ((intro w' hb0 hw'; go_simp) <;> with_reducible rfl)); simp only [Act.put, List.setIfInBounds_toArray, List.set_cons_zero, List.set_cons_succ])
      refine pl_end ?_
      obtain ⟨by', py, rfl, hlty, hcy⟩ := hry.cells.bytes (i := 0) (by simp)
      have hcy' : Y.cell? ⟨by', py, none⟩ = some (.int .u8 118) := hcy
      clear hcy hry hmy hny hlty
      go_wp2
      refine bodyPost_ret (v := .bool true) (by simp [results, Try.results9, go_sem]) rfl ⟨rfl, hbY⟩
    · go_simp
      refine hK _ _ ((Below.refl _ _).alloc (Nat.le_refl _) _ : Rel none V0 _) ?_
      clear hK
      have hZ32 := hZ32.alloc (.cells #[Value.int .u8 0] 5)
      have hZ1 : Blk (V0.alloc (.cells #[Value.int .u8 0] 5)) V0.heap.size z1v := Blk.new' rfl
      have hbV := hbV.alloc hbV.size (.cells #[Value.int .u8 0] 5)
      obtain ⟨b2, hb2⟩ : ∃ b, V0.heap.size = b := ⟨_, rfl⟩
      rw [hb2] at hZ1 ⊢
      clear hb2
      generalize V0.alloc (.cells #[Value.int .u8 0] 5) = V02 at *
      refine pl_one rfl rfl (fun K hK => ?_)
      go_simp
      refine hK _ _ ((Below.refl _ _).alloc (Nat.le_refl _) _ : Rel none V02 _) ?_
      clear hK
      have hZ32 := hZ32.alloc (.cells z12v.toArray 5)
      have hZ1 := hZ1.alloc (.cells z12v.toArray 5)
      have hZ12 : Blk (V02.alloc (.cells z12v.toArray 5)) V02.heap.size z12v := Blk.new' rfl
      have hbV := hbV.alloc hbV.size (.cells z12v.toArray 5)
      obtain ⟨b1, hb1⟩ : ∃ b, V02.heap.size = b := ⟨_, rfl⟩
      rw [hb1] at hZ12 ⊢
      clear hb1
      generalize V02.alloc (.cells z12v.toArray 5) = V021 at *
      refine pl_one rfl rfl (fun K hK => ?_)
      go_simp
      refine (xor12 key0 nonce0 0 [0] V021 (some ⟨b0, 0, none⟩) (some ⟨b1, 0, none⟩) (some ⟨b2, 0, none⟩) 32 32 12 12 1 1 ⟨rfl, hZ32.cells⟩ ⟨rfl, hZ12.cells⟩ ⟨rfl, hZ1.cells⟩ rfl rfl (Nat.le_refl _) (Nat.le_refl _) (by decide) (by decide)).mono ?_
      rintro r Y ⟨oy, ny, cy, rfl, hry, hny, hmy, hby⟩
      refine hK _ _ (hby : Rel none V021 Y) ?_
      have hbY := below_step hbV hby
      clear hK hby hbV hZ32 hZ12 hZ1
      rw [ex_xor] at hry
      obtain rfl : ny = 1 := hry.len
      (refine pl_take (d := 19) (v := ?_) rfl rfl rfl ?_ ?_; rotate_left; (focus ((intro w' hb0 hw'; go_simp) <;> with_reducible rfl)); simp only [Act.put, List.setIfInBounds_toArray, List.set_cons_zero, List.set_cons_succ])
      (refine pl_take (d := 24) (v := ?_) rfl rfl rfl ?_ ?_; rotate_left; (focus ((intro w' hb0 hw'; go_simp) <;> with_reducible rfl)); simp only [Act.put, List.setIfInBounds_toArray, List.set_cons_zero, List.set_cons_succ])
      (refine pl_take (d := 25) (v := ?_) rfl rfl rfl ?_ ?_; rotate_left; (focus ((intro w' hb0 hw'; go_simp) <;> with_reducible rfl)); simp only [Act.put, List.setIfInBounds_toArray, List.set_cons_zero, List.set_cons_succ])
      (refine pl_take (d := 7) (v := ?_) rfl rfl rfl ?_ ?_; rotate_left; (focus ((intro w' hb0 hw'; go_simp) <;> with_reducible rfl)); simp only [Act.put, List.setIfInBounds_toArray, List.set_cons_zero, List.set_cons_succ])
      (refine pl_take (d := 8) (v := ?_) rfl rfl rfl ?_ ?_; rotate_left; (focus ((intro w' hb0 hw'; go_simp) <;> with_reducible rfl)); simp only [Act.put, List.setIfInBounds_toArray, List.set_cons_zero, List.set_cons_succ])
      refine pl_end ?_
      obtain ⟨by', py, rfl, hlty, hcy⟩ := hry.cells.bytes (i := 0) (by simp)
      have hcy' : Y.cell? ⟨by', py, none⟩ = some (.int .u8 118) := hcy
      clear hcy hry hmy hny hlty
      go_wp2
      refine bodyPost_ret (v := .bool true) (by simp [results, Try.results9, go_sem]) rfl ⟨rfl, hbY⟩
  · go_simp
    refine hK _ _ ((Below.refl _ _).alloc (Nat.le_refl _) _ : Rel none V _) ?_
    clear hK
    have hZ12 : Blk (V.alloc (.cells z12v.toArray 5)) V.heap.size z12v := Blk.new' rfl
    have hbV := hbV.alloc hbV.size (.cells z12v.toArray 5)
    obtain ⟨b1, hb1⟩ : ∃ b, V.heap.size = b := ⟨_, rfl⟩
    rw [hb1] at hZ12 ⊢
    clear hb1
    generalize V.alloc (.cells z12v.toArray 5) = V1 at *
    refine pl_two rfl rfl rfl rfl (fun K hK => ?_) (fun K hK => ?_)
    · go_simp
      refine hK _ _ ((Below.refl _ _).alloc (Nat.le_refl _) _ : Rel none V1 _) ?_
      clear hK
      have hZ12 := hZ12.alloc (.cells z32v.toArray 5)
      have hZ32 : Blk (V1.alloc (.cells z32v.toArray 5)) V1.heap.size z32v := Blk.new' rfl
      have hbV := hbV.alloc hbV.size (.cells z32v.toArray 5)
      obtain ⟨b0, hb0⟩ : ∃ b, V1.heap.size = b := ⟨_, rfl⟩
      rw [hb0] at hZ32 ⊢
      clear hb0
      generalize V1.alloc (.cells z32v.toArray 5) = V10 at *
      refine pl_one rfl rfl (fun K hK => ?_)
      go_simp
      refine hK _ _ ((Below.refl _ _).alloc (Nat.le_refl _) _ : Rel none V10 _) ?_
      clear hK
      have hZ12 := hZ12.alloc (.cells #[Value.int .u8 0] 5)
      have hZ32 := hZ32.alloc (.cells #[Value.int .u8 0] 5)
      have hZ1 : Blk (V10.alloc (.cells #[Value.int .u8 0] 5)) V10.heap.size z1v := Blk.new' rfl
      have hbV := hbV.alloc hbV.size (.cells #[Value.int .u8 0] 5)
      obtain ⟨b2, hb2⟩ : ∃ b, V10.heap.size = b := ⟨_, rfl⟩
      rw [hb2] at hZ1 ⊢
      clear hb2
      generalize V10.alloc (.cells #[Value.int .u8 0] 5) = V102 at *
      refine pl_one rfl rfl (fun K hK => ?_)
      go_simp
      refine (xor12 key0 nonce0 0 [0] V102 (some ⟨b0, 0, none⟩) (some ⟨b1, 0, none⟩) (some ⟨b2, 0, none⟩) 32 32 12 12 1 1 ⟨rfl, hZ32.cells⟩ ⟨rfl, hZ12.cells⟩ ⟨rfl, hZ1.cells⟩ rfl rfl (Nat.le_refl _) (Nat.le_refl _) (by decide) (by decide)).mono ?_
      rintro r Y ⟨oy, ny, cy, rfl, hry, hny, hmy, hby⟩
      refine hK _ _ (hby : Rel none V102 Y) ?_
      have hbY := below_step hbV hby
      clear hK hby hbV hZ32 hZ12 hZ1
      rw [ex_xor] at hry
      obtain rfl : ny = 1 := hry.len
      (refine pl_take (d := 19) (v := ?_) rfl rfl rfl ?_ ?_; rotate_left; (focus ((intro w' hb0 hw'; go_simp) <;> with_reducible rfl)); simp only [Act.put, List.setIfInBounds_toArray, List.set_cons_zero, List.set_cons_succ])
      (refine pl_take (d := 24) (v := ?_) rfl rfl rfl ?_ ?_; rotate_left; (focus ((intro w' hb0 hw'; go_simp) <;> with_reducible rfl)); simp only [Act.put, List.setIfInBounds_toArray, List.set_cons_zero, List.set_cons_succ])
      (refine pl_take (d := 25) (v := ?_) rfl rfl rfl ?_ ?_; rotate_left; (focus ((intro w' hb0 hw'; go_simp) <;> with_reducible rfl)); simp only [Act.put, List.setIfInBounds_toArray, List.set_cons_zero, List.set_cons_succ])
      (refine pl_take (d := 7) (v := ?_) rfl rfl rfl ?_ ?_; rotate_left; (focus ((intro w' hb0 hw'; go_simp) <;> with_reducible rfl)); simp only [Act.put, List.setIfInBounds_toArray, List.set_cons_zero, List.set_cons_succ])
      (refine pl_take (d := 8) (v := ?_) rfl rfl rfl ?_ ?_; rotate_left; (focus ((intro w' hb0 hw'; go_simp) <;> with_reducible rfl)); simp only [Act.put, List.setIfInBounds_toArray, List.set_cons_zero, List.set_cons_succ])
      refine pl_end ?_
      obtain ⟨by', py, rfl, hlty, hcy⟩ := hry.cells.bytes (i := 0) (by simp)
      have hcy' : Y.cell? ⟨by', py, none⟩ = some (.int .u8 118) := hcy
      clear hcy hry hmy hny hlty
      go_wp2
      refine bodyPost_ret (v := .bool true) (by simp [results, Try.results9, go_sem]) rfl ⟨rfl, hbY⟩
    · go_simp
      refine hK _ _ ((Below.refl _ _).alloc (Nat.le_refl _) _ : Rel none V1 _) ?_
      clear hK
      have hZ12 := hZ12.alloc (.cells #[Value.int .u8 0] 5)
      have hZ1 : Blk (V1.alloc (.cells #[Value.int .u8 0] 5)) V1.heap.size z1v := Blk.new' rfl
      have hbV := hbV.alloc hbV.size (.cells #[Value.int .u8 0] 5)
      obtain ⟨b2, hb2⟩ : ∃ b, V1.heap.size = b := ⟨_, rfl⟩
      rw [hb2] at hZ1 ⊢
      clear hb2
      generalize V1.alloc (.cells #[Value.int .u8 0] 5) = V12 at *
      refine pl_one rfl rfl (fun K hK => ?_)
      go_simp
      refine hK _ _ ((Below.refl _ _).alloc (Nat.le_refl _) _ : Rel none V12 _) ?_
      clear hK
      have hZ12 := hZ12.alloc (.cells z32v.toArray 5)
      have hZ1 := hZ1.alloc (.cells z32v.toArray 5)
      have hZ32 : Blk (V12.alloc (.cells z32v.toArray 5)) V12.heap.size z32v := Blk.new' rfl
      have hbV := hbV.alloc hbV.size (.cells z32v.toArray 5)
      obtain ⟨b0, hb0⟩ : ∃ b, V12.heap.size = b := ⟨_, rfl⟩
      rw [hb0] at hZ32 ⊢
      clear hb0
      generalize V12.alloc (.cells z32v.toArray 5) = V120 at *
      refine pl_one rfl rfl (fun K hK => ?_)
      go_simp
      refine (xor12 key0 nonce0 0 [0] V120 (some ⟨b0, 0, none⟩) (some ⟨b1, 0, none⟩) (some ⟨b2, 0, none⟩) 32 32 12 12 1 1 ⟨rfl, hZ32.cells⟩ ⟨rfl, hZ12.cells⟩ ⟨rfl, hZ1.cells⟩ rfl rfl (Nat.le_refl _) (Nat.le_refl _) (by decide) (by decide)).mono ?_
      rintro r Y ⟨oy, ny, cy, rfl, hry, hny, hmy, hby⟩
      refine hK _ _ (hby : Rel none V120 Y) ?_
      have hbY := below_step hbV hby
      clear hK hby hbV hZ32 hZ12 hZ1
      rw [ex_xor] at hry
      obtain rfl : ny = 1 := hry.len
      (refine pl_take (d := 19) (v := ?_) rfl rfl rfl ?_ ?_; rotate_left; (focus ((intro w' hb0 hw'; go_simp) <;> with_reducible rfl)); simp only [Act.put, List.setIfInBounds_toArray, List.set_cons_zero, List.set_cons_succ])
      (refine pl_take (d := 24) (v := ?_) rfl rfl rfl ?_ ?_; rotate_left; (focus ((intro w' hb0 hw'; go_simp) <;> with_reducible rfl)); simp only [Act.put, List.setIfInBounds_toArray, List.set_cons_zero, List.set_cons_succ])
      (refine pl_take (d := 25) (v := ?_) rfl rfl rfl ?_ ?_; rotate_left; (focus ((intro w' hb0 hw'; go_simp) <;> with_reducible rfl)); simp only [Act.put, List.setIfInBounds_toArray, List.set_cons_zero, List.set_cons_succ])
      (refine pl_take (d := 7) (v := ?_) rfl rfl rfl ?_ ?_; rotate_left; (focus ((intro w' hb0 hw'; go_simp) <;> with_reducible rfl)); simp only [Act.put, List.setIfInBounds_toArray, List.set_cons_zero, List.set_cons_succ])
      (refine pl_take (d := 8) (v := ?_) rfl rfl rfl ?_ ?_; rotate_left; (focus ((intro w' hb0 hw'; go_simp) <;> with_reducible rfl)); simp only [Act.put, List.setIfInBounds_toArray, List.set_cons_zero, List.set_cons_succ])
      refine pl_end ?_
      obtain ⟨by', py, rfl, hlty, hcy⟩ := hry.cells.bytes (i := 0) (by simp)
      have hcy' : Y.cell? ⟨by', py, none⟩ = some (.int .u8 118) := hcy
      clear hcy hry hmy hny hlty
      go_wp2
      refine bodyPost_ret (v := .bool true) (by simp [results, Try.results9, go_sem]) rfl ⟨rfl, hbY⟩
  · go_simp
    refine hK _ _ ((Below.refl _ _).alloc (Nat.le_refl _) _ : Rel none V _) ?_
    clear hK
    have hZ1 : Blk (V.alloc (.cells #[Value.int .u8 0] 5)) V.heap.size z1v := Blk.new' rfl
    have hbV := hbV.alloc hbV.size (.cells #[Value.int .u8 0] 5)
    obtain ⟨b2, hb2⟩ : ∃ b, V.heap.size = b := ⟨_, rfl⟩
    rw [hb2] at hZ1 ⊢
    clear hb2
    generalize V.alloc (.cells #[Value.int .u8 0] 5) = V2 at *
    refine pl_two rfl rfl rfl rfl (fun K hK => ?_) (fun K hK => ?_)
    · go_simp
      refine hK _ _ ((Below.refl _ _).alloc (Nat.le_refl _) _ : Rel none V2 _) ?_
      clear hK
      have hZ1 := hZ1.alloc (.cells z32v.toArray 5)
      have hZ32 : Blk (V2.alloc (.cells z32v.toArray 5)) V2.heap.size z32v := Blk.new' rfl
      have hbV := hbV.alloc hbV.size (.cells z32v.toArray 5)
      obtain ⟨b0, hb0⟩ : ∃ b, V2.heap.size = b := ⟨_, rfl⟩
      rw [hb0] at hZ32 ⊢
      clear hb0
      generalize V2.alloc (.cells z32v.toArray 5) = V20 at *
      refine pl_one rfl rfl (fun K hK => ?_)
      go_simp
      refine hK _ _ ((Below.refl _ _).alloc (Nat.le_refl _) _ : Rel none V20 _) ?_
      clear hK
      have hZ1 := hZ1.alloc (.cells z12v.toArray 5)
      have hZ32 := hZ32.alloc (.cells z12v.toArray 5)
      have hZ12 : Blk (V20.alloc (.cells z12v.toArray 5)) V20.heap.size z12v := Blk.new' rfl
      have hbV := hbV.alloc hbV.size (.cells z12v.toArray 5)
      obtain ⟨b1, hb1⟩ : ∃ b, V20.heap.size = b := ⟨_, rfl⟩
      rw [hb1] at hZ12 ⊢
      clear hb1
      generalize V20.alloc (.cells z12v.toArray 5) = V201 at *
      refine pl_one rfl rfl (fun K hK => ?_)
      go_simp
      refine (xor12 key0 nonce0 0 [0] V201 (some ⟨b0, 0, none⟩) (some ⟨b1, 0, none⟩) (some ⟨b2, 0, none⟩) 32 32 12 12 1 1 ⟨rfl, hZ32.cells⟩ ⟨rfl, hZ12.cells⟩ ⟨rfl, hZ1.cells⟩ rfl rfl (Nat.le_refl _) (Nat.le_refl _) (by decide) (by decide)).mono ?_
      rintro r Y ⟨oy, ny, cy, rfl, hry, hny, hmy, hby⟩
      refine hK _ _ (hby : Rel none V201 Y) ?_
      have hbY := below_step hbV hby
      clear hK hby hbV hZ32 hZ12 hZ1
      rw [ex_xor] at hry
      obtain rfl : ny = 1 := hry.len
      (refine pl_take (d := 19) (v := ?_) rfl rfl rfl ?_ ?_; rotate_left; (focus ((intro w' hb0 hw'; go_simp) <;> with_reducible rfl)); simp only [Act.put, List.setIfInBounds_toArray, List.set_cons_zero, List.set_cons_succ])
      (refine pl_take (d := 24) (v := ?_) rfl rfl rfl ?_ ?_; rotate_left; (focus ((intro w' hb0 hw'; go_simp) <;> with_reducible rfl)); simp only [Act.put, List.setIfInBounds_toArray, List.set_cons_zero, List.set_cons_succ])
      (refine pl_take (d := 25) (v := ?_) rfl rfl rfl ?_ ?_; rotate_left; (focus ((intro w' hb0 hw'; go_simp) <;> with_reducible rfl)); simp only [Act.put, List.setIfInBounds_toArray, List.set_cons_zero, List.set_cons_succ])
      (refine pl_take (d := 7) (v := ?_) rfl rfl rfl ?_ ?_; rotate_left; (focus ((intro w' hb0 hw'; go_simp) <;> with_reducible rfl)); simp only [Act.put, List.setIfInBounds_toArray, List.set_cons_zero, List.set_cons_succ])
      (refine pl_take (d := 8) (v := ?_) rfl rfl rfl ?_ ?_; rotate_left; (focus ((intro w' hb0 hw'; go_simp) <;> with_reducible rfl)); simp only [Act.put, List.setIfInBounds_toArray, List.set_cons_zero, List.set_cons_succ])
      refine pl_end ?_
      obtain ⟨by', py, rfl, hlty, hcy⟩ := hry.cells.bytes (i := 0) (by simp)
      have hcy' : Y.cell? ⟨by', py, none⟩ = some (.int .u8 118) := hcy
      clear hcy hry hmy hny hlty
      go_wp2
      refine bodyPost_ret (v := .bool true) (by simp [results, Try.results9, go_sem]) rfl ⟨rfl, hbY⟩
    · go_simp
      refine hK _ _ ((Below.refl _ _).alloc (Nat.le_refl _) _ : Rel none V2 _) ?_
      clear hK
      have hZ1 := hZ1.alloc (.cells z12v.toArray 5)
      have hZ12 : Blk (V2.alloc (.cells z12v.toArray 5)) V2.heap.size z12v := Blk.new' rfl
      have hbV := hbV.alloc hbV.size (.cells z12v.toArray 5)
      obtain ⟨b1, hb1⟩ : ∃ b, V2.heap.size = b := ⟨_, rfl⟩
      rw [hb1] at hZ12 ⊢
      clear hb1
      generalize V2.alloc (.cells z12v.toArray 5) = V21 at *
      refine pl_one rfl rfl (fun K hK => ?_)
      go_simp
      refine hK _ _ ((Below.refl _ _).alloc (Nat.le_refl _) _ : Rel none V21 _) ?_
      clear hK
      have hZ1 := hZ1.alloc (.cells z32v.toArray 5)
      have hZ12 := hZ12.alloc (.cells z32v.toArray 5)
      have hZ32 : Blk (V21.alloc (.cells z32v.toArray 5)) V21.heap.size z32v := Blk.new' rfl
      have hbV := hbV.alloc hbV.size (.cells z32v.toArray 5)
      obtain ⟨b0, hb0⟩ : ∃ b, V21.heap.size = b := ⟨_, rfl⟩
      rw [hb0] at hZ32 ⊢
      clear hb0
      generalize V21.alloc (.cells z32v.toArray 5) = V210 at *
      refine pl_one rfl rfl (fun K hK => ?_)
      go_simp
      refine (xor12 key0 nonce0 0 [0] V210 (some ⟨b0, 0, none⟩) (some ⟨b1, 0, none⟩) (some ⟨b2, 0, none⟩) 32 32 12 12 1 1 ⟨rfl, hZ32.cells⟩ ⟨rfl, hZ12.cells⟩ ⟨rfl, hZ1.cells⟩ rfl rfl (Nat.le_refl _) (Nat.le_refl _) (by decide) (by decide)).mono ?_
      rintro r Y ⟨oy, ny, cy, rfl, hry, hny, hmy, hby⟩
      refine hK _ _ (hby : Rel none V210 Y) ?_
      have hbY := below_step hbV hby
      clear hK hby hbV hZ32 hZ12 hZ1
      rw [ex_xor] at hry
      obtain rfl : ny = 1 := hry.len
      (refine pl_take (d := 19) (v := ?_) rfl rfl rfl ?_ ?_; rotate_left; (focus ((intro w' hb0 hw'; go_simp) <;> with_reducible rfl)); simp only [Act.put, List.setIfInBounds_toArray, List.set_cons_zero, List.set_cons_succ])
      (refine pl_take (d := 24) (v := ?_) rfl rfl rfl ?_ ?_; rotate_left; (focus ((intro w' hb0 hw'; go_simp) <;> with_reducible rfl)); simp only [Act.put, List.setIfInBounds_toArray, List.set_cons_zero, List.set_cons_succ])
      (refine pl_take (d := 25) (v := ?_) rfl rfl rfl ?_ ?_; rotate_left; (focus ((intro w' hb0 hw'; go_simp) <;> with_reducible rfl)); simp only [Act.put, List.setIfInBounds_toArray, List.set_cons_zero, List.set_cons_succ])
      (refine pl_take (d := 7) (v := ?_) rfl rfl rfl ?_ ?_; rotate_left; (focus ((intro w' hb0 hw'; go_simp) <;> with_reducible rfl)); simp only [Act.put, List.setIfInBounds_toArray, List.set_cons_zero, List.set_cons_succ])
      (refine pl_take (d := 8) (v := ?_) rfl rfl rfl ?_ ?_; rotate_left; (focus ((intro w' hb0 hw'; go_simp) <;> with_reducible rfl)); simp only [Act.put, List.setIfInBounds_toArray, List.set_cons_zero, List.set_cons_succ])
      refine pl_end ?_
      obtain ⟨by', py, rfl, hlty, hcy⟩ := hry.cells.bytes (i := 0) (by simp)
      have hcy' : Y.cell? ⟨by', py, none⟩ = some (.int .u8 118) := hcy
      clear hcy hry hmy hny hlty
      go_wp2
      refine bodyPost_ret (v := .bool true) (by simp [results, Try.results9, go_sem]) rfl ⟨rfl, hbY⟩
end Go.Proofs.Ytliemmdadfpdjaa
