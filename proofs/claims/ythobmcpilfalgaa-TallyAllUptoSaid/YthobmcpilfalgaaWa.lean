/-
  Packets, tallies: what they are in memory; sums.
-/
import Derived.Test.YthobmcpilfalgaaMid
import Derived.Test.YthobmcpilfalgaaPlan
import Derived.Test.YthobmcpilfalgaaOpen2
import Derived.KernelRfl
import Derived.Test.YthobmcpilfalgaaProg
import Derived.Walk
namespace Go.Proofs.Ythobmcpilfalgaa
open Go.RowKit
set_option maxHeartbeats 1000000
set_option maxRecDepth 20000
set_option linter.unusedVariables false
set_option linter.unusedSimpArgs false

/-- a packet: its cells, and its bytes -/
structure Pk where
  frm : ByteArray
  to : ByteArray
  oa : Option Addr
  n : Nat
  c : Nat
  b : List UInt8
def Pk.cells (p : Pk) : List Value := [.string p.frm, .string p.to, .slice p.oa p.n p.c]
structure Pk.Ok (w : World) (p : Pk) : Prop where
  reads : Reads w p.oa p.n p.b
  le : p.n ≤ p.c
  cap : p.c ≤ maxLen
  small : p.n ≤ reachBytes
theorem Pk.Ok.below {w w' : World} {p : Pk} (h : p.Ok w) (hb : Below w.heap.size w w') : p.Ok w' := ⟨h.reads.below hb, h.le, h.cap, h.small⟩
/-- packets' list in memory -/
structure Pks (w : World) (oa : Option Addr) (n c : Nat) (l : List Pk) : Prop where
  rows : RowsOf Pk.cells w oa n l
  le : n ≤ c
  cap : c ≤ maxLen
  ok : ∀ p ∈ l, p.Ok w
theorem Pks.below {w w' : World} {oa : Option Addr} {n c : Nat} {l : List Pk} (h : Pks w oa n c l) (hb : Below w.heap.size w w') : Pks w' oa n c l :=
  ⟨h.rows.below hb, h.le, h.cap, fun p hp => (h.ok p hp).below hb⟩
theorem RowsOf.pk {w : World} {oa : Option Addr} {n : Nat} {l : List Pk} (h : RowsOf Pk.cells w oa n l) {i : Nat} (hi : i < l.length) :
    ∃ b o, oa = some ⟨b, o, none⟩ ∧ b < w.heap.size ∧ w.cell? ⟨b, o + i * 3, none⟩ = some (.string l[i].frm) ∧ w.cell? ⟨b, o + i * 3 + 1, none⟩ = some (.string l[i].to) ∧
      w.cell? ⟨b, o + i * 3 + 2, none⟩ = some (.slice l[i].oa l[i].n l[i].c) := by
  obtain ⟨b, o, e, hlt, hc⟩ := h.elem (k := 3) (fun _ => rfl) (by omega) hi
  exact ⟨b, o, e, hlt, hc 0 (by omega), hc 1 (by omega), hc 2 (by omega)⟩

structure Tal where
  h : Int
  w : Int
  r : Int
  s : Int
  o : Int
  b : Int
  deriving DecidableEq
def Tal.cells (t : Tal) : List Value := [.int .i64 t.h, .int .i64 t.w, .int .i64 t.r, .int .i64 t.s, .int .i64 t.o, .int .i64 t.b]
def t0 : Tal := ⟨0, 0, 0, 0, 0, 0⟩
def addT (x y : Tal) : Tal := ⟨wrap64 (x.h + y.h), wrap64 (x.w + y.w), wrap64 (x.r + y.r), wrap64 (x.s + y.s), wrap64 (x.o + y.o), wrap64 (x.b + y.b)⟩
def packT (t : Tal) : Int := wrap64 (wrap64 (wrap64 (wrap64 (t.h + t.w) + t.r) + t.s) + t.o)
theorem wrap_wrap (a b : Int) : wrap64 (wrap64 a + b) = wrap64 (a + b) := by
  unfold wrap64; omega

theorem row33 : RowTy Try.prog 33 6 := ⟨⟨_, rfl, rfl⟩, by kernel_rfl⟩
theorem row32 : RowTy Try.prog 32 6 := ⟨⟨_, rfl, rfl⟩, by kernel_rfl⟩
theorem row51 : RowTy Try.prog 51 3 := ⟨⟨_, rfl, rfl⟩, by kernel_rfl⟩
theorem el22 : Elem Try.prog 22 51 3 56 := Elem.of (.agg #[.string ⟨#[]⟩, .string ⟨#[]⟩, .slice none 0 0]) rfl (by kernel_rfl) rfl (by omega)

theorem numbers30 (t : Tal) (w : World) : Calls Try.prog 30 #[.agg t.cells.toArray] w fun e w' => e = .returned (.agg t.cells.toArray) ∧ Below w.heap.size w w' := by
  obtain ⟨h, w, r, s, o, b⟩ := t
  simp only [Tal.cells]
  go_enter Try.func30, Try.ntmps30
  go_wp2
  refine bodyPost_ret (v := .agg #[.int .i64 h, .int .i64 w, .int .i64 r, .int .i64 s, .int .i64 o, .int .i64 b]) (by simp [results, Try.results30, go_sem]) rfl ⟨rfl, by (with_reducible try refine Lib.hid ?_); (repeat (with_reducible first | assumption | exact Below.refl _ _ | apply Below.drew | apply Below.drewN' | apply Below.setCell | apply Below.alloc)) <;> (try simp [length_fillTo, length_turnTo]) <;> (try omega)⟩
theorem tally31 (t : Tal) (w : World) : Calls Try.prog 31 #[.agg t.cells.toArray] w fun e w' => e = .returned (.agg t.cells.toArray) ∧ Below w.heap.size w w' := by
  obtain ⟨h, w, r, s, o, b⟩ := t
  simp only [Tal.cells]
  go_enter Try.func31, Try.ntmps31
  go_wp2
  refine bodyPost_ret (v := .agg #[.int .i64 h, .int .i64 w, .int .i64 r, .int .i64 s, .int .i64 o, .int .i64 b]) (by simp [results, Try.results31, go_sem]) rfl ⟨rfl, by (with_reducible try refine Lib.hid ?_); (repeat (with_reducible first | assumption | exact Below.refl _ _ | apply Below.drew | apply Below.drewN' | apply Below.setCell | apply Below.alloc)) <;> (try simp [length_fillTo, length_turnTo]) <;> (try omega)⟩
theorem refAdd20 (x y : Tal) (w : World) : Calls Try.prog 20 #[.agg x.cells.toArray, .agg y.cells.toArray] w fun e w' => e = .returned (.agg (addT x y).cells.toArray) ∧ Below w.heap.size w w' := by
  obtain ⟨h, w, r, s, o, b⟩ := x
  obtain ⟨h', w', r', s', o', b'⟩ := y
  simp only [Tal.cells]
  go_enter Try.func20, Try.ntmps20
  go_wp2
  refine bodyPost_ret (v := .agg (addT ⟨h, w, r, s, o, b⟩ ⟨h', w', r', s', o', b'⟩).cells.toArray) (by simp [results, Try.results20, go_sem, Tal.cells, addT]) rfl ⟨rfl, by (with_reducible try refine Lib.hid ?_); (repeat (with_reducible first | assumption | exact Below.refl _ _ | apply Below.drew | apply Below.drewN' | apply Below.setCell | apply Below.alloc)) <;> (try simp [length_fillTo, length_turnTo]) <;> (try omega)⟩
theorem refPackets22 (t : Tal) (w : World) : Calls Try.prog 22 #[.agg t.cells.toArray] w fun e w' => e = .returned (.int .i64 (packT t)) ∧ Below w.heap.size w w' := by
  obtain ⟨h, w, r, s, o, b⟩ := t
  simp only [Tal.cells]
  go_enter Try.func22, Try.ntmps22
  go_wp2
  refine bodyPost_ret (v := .int .i64 (packT ⟨h, w, r, s, o, b⟩)) (by simp [results, Try.results22, go_sem, packT]) rfl ⟨rfl, by (with_reducible try refine Lib.hid ?_); (repeat (with_reducible first | assumption | exact Below.refl _ _ | apply Below.drew | apply Below.drewN' | apply Below.setCell | apply Below.alloc)) <;> (try simp [length_fillTo, length_turnTo]) <;> (try omega)⟩

def shareT (x y : Tal) : Int := if x.b < 0 ∨ y.b < 1 ∨ y.b < x.b ∨ 1125899906842624 < y.b then 0 else x.b * 100 / y.b
theorem share23 (x y : Tal) (w : World) : Calls Try.prog 23 #[.agg x.cells.toArray, .agg y.cells.toArray] w fun e w' => e = .returned (.int .i64 (shareT x y)) ∧ Below w.heap.size w w' := by
  obtain ⟨h, w, r, s, o, b⟩ := x
  obtain ⟨h', w', r', s', o', b'⟩ := y
  have HS : Hid (shareT ⟨h, w, r, s, o, b⟩ ⟨h', w', r', s', o', b'⟩ = if b < 0 ∨ b' < 1 ∨ b' < b ∨ 1125899906842624 < b' then 0 else b * 100 / b') := rfl
  simp only [Tal.cells]
  by_cases h1 : b < 0
  · go_enter Try.func23, Try.ntmps23
    go_wp2
    refine bodyPost_ret (v := .int .i64 0) (by simp [results, Try.results23, go_sem]) rfl ⟨by rw [HS.out, if_pos (by omega)], by (with_reducible try refine Lib.hid ?_); (repeat (with_reducible first | assumption | exact Below.refl _ _ | apply Below.drew | apply Below.drewN' | apply Below.setCell | apply Below.alloc)) <;> (try simp [length_fillTo, length_turnTo]) <;> (try omega)⟩
  by_cases h2 : b' ≤ 0
  · go_enter Try.func23, Try.ntmps23
    go_wp2
    refine bodyPost_ret (v := .int .i64 0) (by simp [results, Try.results23, go_sem]) rfl ⟨by rw [HS.out, if_pos (by omega)], by (with_reducible try refine Lib.hid ?_); (repeat (with_reducible first | assumption | exact Below.refl _ _ | apply Below.drew | apply Below.drewN' | apply Below.setCell | apply Below.alloc)) <;> (try simp [length_fillTo, length_turnTo]) <;> (try omega)⟩
  by_cases h3 : b' < b
  · go_enter Try.func23, Try.ntmps23
    go_wp2
    refine bodyPost_ret (v := .int .i64 0) (by simp [results, Try.results23, go_sem]) rfl ⟨by rw [HS.out, if_pos (by omega)], by (with_reducible try refine Lib.hid ?_); (repeat (with_reducible first | assumption | exact Below.refl _ _ | apply Below.drew | apply Below.drewN' | apply Below.setCell | apply Below.alloc)) <;> (try simp [length_fillTo, length_turnTo]) <;> (try omega)⟩
  by_cases h4 : 1125899906842624 < b'
  · go_enter Try.func23, Try.ntmps23
    go_wp2
    refine bodyPost_ret (v := .int .i64 0) (by simp [results, Try.results23, go_sem]) rfl ⟨by rw [HS.out, if_pos (by omega)], by (with_reducible try refine Lib.hid ?_); (repeat (with_reducible first | assumption | exact Below.refl _ _ | apply Below.drew | apply Below.drewN' | apply Below.setCell | apply Below.alloc)) <;> (try simp [length_fillTo, length_turnTo]) <;> (try omega)⟩
  · have rm : IntKind.i64.wrap (100 * b) = b * 100 := by rw [IntKind.wrap_i64]; omega
    have hz : ¬ b' = 0 := by omega
    have rq : IntKind.i64.wrap ((b * 100).tdiv b') = b * 100 / b' := by
      rw [Int.tdiv_eq_ediv_of_nonneg (by omega)]
      have h5 : 0 ≤ b * 100 / b' := Int.ediv_nonneg (by omega) (by omega)
      have h6 : b * 100 / b' ≤ b * 100 := Int.ediv_le_self _ (by omega)
      rw [IntKind.wrap_i64]; omega
    have HC : Hid (¬ (b < 0 ∨ b' < 1 ∨ b' < b ∨ 1125899906842624 < b')) := by show ¬ _; omega
    go_enter Try.func23, Try.ntmps23
    go_wp2
    refine bodyPost_ret (v := .int .i64 (b * 100 / b')) (by simp [results, Try.results23, go_sem]) rfl ⟨by rw [HS.out, if_neg HC.out], by (with_reducible try refine Lib.hid ?_); (repeat (with_reducible first | assumption | exact Below.refl _ _ | apply Below.drew | apply Below.drewN' | apply Below.setCell | apply Below.alloc)) <;> (try simp [length_fillTo, length_turnTo]) <;> (try omega)⟩
theorem refShare24 (x y : Tal) (w : World) : Calls Try.prog 24 #[.agg x.cells.toArray, .agg y.cells.toArray] w fun e w' => e = .returned (.int .i64 (shareT x y)) ∧ Below w.heap.size w w' := by
  obtain ⟨h, w, r, s, o, b⟩ := x
  obtain ⟨h', w', r', s', o', b'⟩ := y
  have HS : Hid (shareT ⟨h, w, r, s, o, b⟩ ⟨h', w', r', s', o', b'⟩ = if b < 0 ∨ b' < 1 ∨ b' < b ∨ 1125899906842624 < b' then 0 else b * 100 / b') := rfl
  simp only [Tal.cells]
  by_cases h1 : b < 0
  · go_enter Try.func24, Try.ntmps24
    go_wp2
    refine bodyPost_ret (v := .int .i64 0) (by simp [results, Try.results24, go_sem]) rfl ⟨by rw [HS.out, if_pos (by omega)], by (with_reducible try refine Lib.hid ?_); (repeat (with_reducible first | assumption | exact Below.refl _ _ | apply Below.drew | apply Below.drewN' | apply Below.setCell | apply Below.alloc)) <;> (try simp [length_fillTo, length_turnTo]) <;> (try omega)⟩
  by_cases h2 : b' < 1
  · go_enter Try.func24, Try.ntmps24
    go_wp2
    refine bodyPost_ret (v := .int .i64 0) (by simp [results, Try.results24, go_sem]) rfl ⟨by rw [HS.out, if_pos (by omega)], by (with_reducible try refine Lib.hid ?_); (repeat (with_reducible first | assumption | exact Below.refl _ _ | apply Below.drew | apply Below.drewN' | apply Below.setCell | apply Below.alloc)) <;> (try simp [length_fillTo, length_turnTo]) <;> (try omega)⟩
  by_cases h3 : b' < b
  · go_enter Try.func24, Try.ntmps24
    go_wp2
    refine bodyPost_ret (v := .int .i64 0) (by simp [results, Try.results24, go_sem]) rfl ⟨by rw [HS.out, if_pos (by omega)], by (with_reducible try refine Lib.hid ?_); (repeat (with_reducible first | assumption | exact Below.refl _ _ | apply Below.drew | apply Below.drewN' | apply Below.setCell | apply Below.alloc)) <;> (try simp [length_fillTo, length_turnTo]) <;> (try omega)⟩
  by_cases h4 : 1125899906842624 < b'
  · go_enter Try.func24, Try.ntmps24
    go_wp2
    refine bodyPost_ret (v := .int .i64 0) (by simp [results, Try.results24, go_sem]) rfl ⟨by rw [HS.out, if_pos (by omega)], by (with_reducible try refine Lib.hid ?_); (repeat (with_reducible first | assumption | exact Below.refl _ _ | apply Below.drew | apply Below.drewN' | apply Below.setCell | apply Below.alloc)) <;> (try simp [length_fillTo, length_turnTo]) <;> (try omega)⟩
  · have rm : IntKind.i64.wrap (b * 100) = b * 100 := by rw [IntKind.wrap_i64]; omega
    have hz : ¬ b' = 0 := by omega
    have rq : IntKind.i64.wrap ((b * 100).tdiv b') = b * 100 / b' := by
      rw [Int.tdiv_eq_ediv_of_nonneg (by omega)]
      have h5 : 0 ≤ b * 100 / b' := Int.ediv_nonneg (by omega) (by omega)
      have h6 : b * 100 / b' ≤ b * 100 := Int.ediv_le_self _ (by omega)
      rw [IntKind.wrap_i64]; omega
    have HC : Hid (¬ (b < 0 ∨ b' < 1 ∨ b' < b ∨ 1125899906842624 < b')) := by show ¬ _; omega
    go_enter Try.func24, Try.ntmps24
    go_wp2
    refine bodyPost_ret (v := .int .i64 (b * 100 / b')) (by simp [results, Try.results24, go_sem]) rfl ⟨by rw [HS.out, if_neg HC.out], by (with_reducible try refine Lib.hid ?_); (repeat (with_reducible first | assumption | exact Below.refl _ _ | apply Below.drew | apply Below.drewN' | apply Below.setCell | apply Below.alloc)) <;> (try simp [length_fillTo, length_turnTo]) <;> (try omega)⟩
end Go.Proofs.Ythobmcpilfalgaa
