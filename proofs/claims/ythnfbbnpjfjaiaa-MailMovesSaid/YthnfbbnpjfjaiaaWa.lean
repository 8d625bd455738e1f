/-
  Packets: what they are in memory; a copied one; a place in a list.
-/
import Derived.Test.YthnfbbnpjfjaiaaCopy
import Derived.Test.YthnfbbnpjfjaiaaOpen2
import Derived.Test.YthnfbbnpjfjaiaaEager
import Derived.Test.YthnfbbnpjfjaiaaPlan
import Derived.KernelRfl
import Derived.Test.YthnfbbnpjfjaiaaProg
import Derived.Walk
namespace Go.Proofs.Ythnfbbnpjfjaiaa
open Go.RowKit
set_option maxHeartbeats 1000000
set_option linter.unusedVariables false
set_option linter.unusedSimpArgs false

/-- a packet: its cells, and its bytes -/
structure Pk where
  frm : ByteArray
  to : ByteArray
  oa : Option Addr
  n : Nat
  c : Nat
  b : List UInt8
def Pk.cells (p : Pk) : List Value := [.string p.frm, .string p.to, .slice p.oa p.n p.c]
structure Pk.Ok (w : World) (p : Pk) : Prop where
  reads : Reads w p.oa p.n p.b
  le : p.n ≤ p.c
  cap : p.c ≤ maxLen
  small : p.n ≤ reachBytes
theorem Pk.Ok.below {w w' : World} {p : Pk} (h : p.Ok w) (hb : Below w.heap.size w w') : p.Ok w' := ⟨h.reads.below hb, h.le, h.cap, h.small⟩
def Pk.dat (p : Pk) : ByteArray × ByteArray × List UInt8 := (p.frm, p.to, p.b)

theorem place20 (w : World) (oa : Option Addr) (n c : Nat) (i : Int) :
    Calls Try.prog 20 #[.slice oa n c, .int .i64 i] w fun r w' => r = .returned (.bool (decide (0 ≤ i) && decide (i < (n : Int)))) ∧ w' = w := by
  by_cases h0 : 0 ≤ i
  · go_enter Try.func20, Try.ntmps20
    go_wp2
    refine bodyPost_ret (v := .bool (decide (i < (n : Int)))) (by simp [results, Try.results20, go_sem]) rfl ⟨by simp [h0], rfl⟩
  · go_enter Try.func20, Try.ntmps20
    go_wp2
    refine bodyPost_ret (v := .bool false) (by simp [results, Try.results20, go_sem]) rfl ⟨by rw [decide_eq_false (by omega : ¬ 0 ≤ i), Bool.false_and], rfl⟩

theorem row25 : RowTy Try.prog 25 3 := ⟨⟨_, rfl, rfl⟩, by kernel_rfl⟩
theorem el22 : Elem Try.prog 22 25 3 56 := Elem.of (.agg #[.string ⟨#[]⟩, .string ⟨#[]⟩, .slice none 0 0]) rfl (by kernel_rfl) rfl (by omega)
/-- bytes that are 0 -/
def zb (n : Nat) : List Value := List.replicate n (By 0)
theorem mk23 (n : Nat) (hn : n ≤ reachBytes) (W : World) : (Instr.makeSlice 23 (.int .i64 n) (.int .i64 n)).run Try.prog W = .ok (.slice (some ⟨W.heap.size, 0, none⟩) n n) (W.alloc (.cells (zb n).toArray 5)) := by
  simp [reachBytes] at hn
  exact run_make_blk (P := Try.prog) W 23 5 (.int .u8 0) 1 rfl (by kernel_rfl) rfl .i64 .i64 n (by omega) (by simp [maxLen]; omega)

/-- a packet whose bytes lie in a new block -/
theorem one19 (p : Pk) (w : World) (h : p.Ok w) :
    Calls Try.prog 19 #[.agg #[.string p.frm, .string p.to, .slice p.oa p.n p.c]] w fun r w' => ∃ b, r = .returned (.agg #[.string p.frm, .string p.to, .slice (some ⟨b, 0, none⟩) p.n p.n]) ∧ w.heap.size ≤ b ∧ Blk w' b (p.b.map By) ∧ Below w.heap.size w w' := by
  obtain ⟨f, t, oa, n, c, b⟩ := p
  obtain ⟨hr, hle, hcap, hsm⟩ := h
  simp only at hr hle hcap hsm ⊢
  obtain rfl : n = b.length := hr.len
  have HR := Lib.hid hr; clear hr
  have hmk := fun W => mk23 b.length hsm W
  have HSM := Lib.hid hsm
  clear hle hcap hsm
  go_enter Try.func19, Try.ntmps19
  have hX := Blk.new w [.string f, .string t, .slice oa b.length c] 25
  have hY := Blk.second w [.string ⟨#[]⟩, .string ⟨#[]⟩, .slice none 0 0] 25 (.cells [Value.string f, .string t, .slice oa b.length c].toArray 25)
  have HX := Lib.hid hX; have HY := Lib.hid hY; clear hX hY
  go_wp2_with (first | (refine stop_copy rfl ?_))
  have hb : Below w.heap.size w (((w.alloc (.cells #[Value.string f, .string t, .slice oa b.length c] 25)).alloc (.cells #[Value.string ⟨#[]⟩, .string ⟨#[]⟩, .slice none 0 0] 25)).alloc (.cells (zb b.length).toArray 5)) := by (with_reducible try refine Lib.hid ?_); (repeat (with_reducible first | assumption | exact Below.refl _ _ | apply Below.drew | apply Below.drewN' | apply Below.setCell | apply Below.alloc)) <;> (try simp [length_fillTo, length_turnTo]) <;> (try omega)
  have hX2 : Blk (((w.alloc (.cells #[Value.string f, .string t, .slice oa b.length c] 25)).alloc (.cells #[Value.string ⟨#[]⟩, .string ⟨#[]⟩, .slice none 0 0] 25)).alloc (.cells (zb b.length).toArray 5)) w.heap.size [Value.string f, .string t, .slice oa b.length c] := (HX.out.alloc _).alloc _
  have hY2 : Blk (((w.alloc (.cells #[Value.string f, .string t, .slice oa b.length c] 25)).alloc (.cells #[Value.string ⟨#[]⟩, .string ⟨#[]⟩, .slice none 0 0] 25)).alloc (.cells (zb b.length).toArray 5)) (w.heap.size + 1) [Value.string ⟨#[]⟩, .string ⟨#[]⟩, .slice none 0 0] := HY.out.alloc _
  have hZ2 : Blk (((w.alloc (.cells #[Value.string f, .string t, .slice oa b.length c] 25)).alloc (.cells #[Value.string ⟨#[]⟩, .string ⟨#[]⟩, .slice none 0 0] 25)).alloc (.cells (zb b.length).toArray 5)) (w.heap.size + 1 + 1) (zb b.length) := Blk.new' (by simp)
  generalize ((w.alloc (.cells #[Value.string f, .string t, .slice oa b.length c] 25)).alloc (.cells #[Value.string ⟨#[]⟩, .string ⟨#[]⟩, .slice none 0 0] 25)).alloc (.cells (zb b.length).toArray 5) = W at *
  clear HX HY hmk
  refine ⟨wpList_copy_blk rfl rfl rfl (by kernel_rfl) hZ2 (by rfl) (by rfl) (by simp [zb]) (by simp) rfl (HR.out.below hb).cells (By_oneCell _) ?_⟩
  intro W2 hB hg
  have hX3 := hX2.grown hg (by simp; omega)
  have hY3 := hY2.grown hg (by simp)
  have hb2 := Below.grownB hb hg (by omega) hb.size
  have HB := Lib.hid hB
  clear hX2 hY2 hZ2 hb hg hB HR
  have hX4 := hX3.set 2 (by simp) (.slice (some ⟨w.heap.size + 1 + 1, 0, none⟩) b.length b.length)
  have hY4 := hY3.setOther (a := ⟨w.heap.size, 2, none⟩) (by simp) (.slice (some ⟨w.heap.size + 1 + 1, 0, none⟩) b.length b.length)
  have hB4 := HB.out.setOther (a := ⟨w.heap.size, 2, none⟩) (by simp; omega) (.slice (some ⟨w.heap.size + 1 + 1, 0, none⟩) b.length b.length)
  have hb4 := hb2.setCell (p := ⟨w.heap.size, 2, none⟩) (by simp) (.slice (some ⟨w.heap.size + 1 + 1, 0, none⟩) b.length b.length)
  have HX4 := Lib.hid hX4; have HY4 := Lib.hid hY4; have HB4 := Lib.hid hB4; have Hb4 := Lib.hid hb4
  clear hX4 hY4 hB4 hb4
  have c2 := hX3.at' 2 (by simp)
  have cz := hX3.froz
  clear hX3 hY3 hb2
  go_wp2_with (first | (refine stop_load (ty := 25) rfl ?_))
  refine ⟨wpList_load_blk rfl rfl HX4.out (by rfl) row25 ?_⟩
  go_wp2_with (first | (refine stop_store (ty := 25) rfl ?_))
  refine ⟨wpList_store_blk rfl rfl HY4.out (by rfl) (vs := [.string f, .string t, .slice (some ⟨w.heap.size + 1 + 1, 0, none⟩) b.length b.length]) (by rfl) row25 rfl (by simp [Value.oneCell']) ?_⟩
  intro W5 hY5 hg5
  have hB5 := HB4.out.grown hg5 (by simp)
  have hb5 := Below.grownB Hb4.out hg5 (by omega) (Hb4.out.size)
  have HB5 := Lib.hid hB5; have HY5 := Lib.hid hY5; have Hb5 := Lib.hid hb5
  clear hB5 hY5 hb5 hg5 HX4 HY4 HB4 Hb4 HB c2 cz
  go_wp2
  exact ret_blk (b := w.heap.size + 1) rfl (by rfl) HY5.out row25 rfl ⟨_, rfl, by omega, HB5.out, Hb5.out⟩
end Go.Proofs.Ythnfbbnpjfjaiaa
