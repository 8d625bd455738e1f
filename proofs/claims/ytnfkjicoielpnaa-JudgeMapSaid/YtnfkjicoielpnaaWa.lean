/-
  Results, states, items: what they are in memory, and what is to be computed of them.
-/
import Derived.Test.YtnfkjicoielpnaaMid
import Derived.Test.YtnfkjicoielpnaaPlan
import Derived.Test.YtnfkjicoielpnaaOpen
import Derived.Test.YtnfkjicoielpnaaRows
import Derived.KernelRfl
import Derived.Test.YtnfkjicoielpnaaProg
import Derived.Walk
namespace Go.Proofs.Ytnfkjicoielpnaa
open Go.RowKit
set_option maxHeartbeats 1000000
set_option maxRecDepth 20000
set_option linter.unusedVariables false
set_option linter.unusedSimpArgs false

structure Res where
  job : Int
  kind : Int
  ver : Int
  key : ByteArray
  val : ByteArray
  has : Bool
  gone : Bool
  err : Int
def Res.cells (r : Res) : List Value := [.int .i64 r.job, .int .i64 r.kind, .int .i64 r.ver, .string r.key, .string r.val, .bool r.has, .bool r.gone, .int .i64 r.err]
structure St where
  val : ByteArray
  ver : Int
  is : Bool
  un : Bool
  deriving DecidableEq
def St.cells (s : St) : List Value := [.string s.val, .int .i64 s.ver, .bool s.is, .bool s.un]
abbrev KSt := ByteArray × St
def scells (s : KSt) : List Value := [.string s.1, .string s.2.val, .int .i64 s.2.ver, .bool s.2.is, .bool s.2.un]
structure It where
  key : ByteArray
  val : ByteArray
  ver : Int
  gone : Bool
  deriving DecidableEq
def It.cells (s : It) : List Value := [.string s.key, .string s.val, .int .i64 s.ver, .bool s.gone]
def str1 (s : ByteArray) : List Value := [.string s]

theorem row36 : RowTy Try.prog 36 8 := ⟨⟨_, rfl, rfl⟩, by kernel_rfl⟩
theorem row33 : RowTy Try.prog 33 4 := ⟨⟨_, rfl, rfl⟩, by kernel_rfl⟩
theorem row38 : RowTy Try.prog 38 5 := ⟨⟨_, rfl, rfl⟩, by kernel_rfl⟩
theorem row44 : RowTy Try.prog 44 4 := ⟨⟨_, rfl, rfl⟩, by kernel_rfl⟩
theorem el22 : Elem Try.prog 22 36 8 72 := Elem.of (.agg #[.int .i64 0, .int .i64 0, .int .i64 0, .string ⟨#[]⟩, .string ⟨#[]⟩, .bool false, .bool false, .int .i64 0]) rfl (by kernel_rfl) rfl (by omega)
theorem el26 : Elem Try.prog 26 44 4 48 := Elem.of (.agg #[.string ⟨#[]⟩, .string ⟨#[]⟩, .int .i64 0, .bool false]) rfl (by kernel_rfl) rfl (by omega)
theorem el47 : Elem Try.prog 47 38 5 48 := Elem.of (.agg #[.string ⟨#[]⟩, .string ⟨#[]⟩, .int .i64 0, .bool false, .bool false]) rfl (by kernel_rfl) rfl (by omega)
theorem el29 : Elem Try.prog 29 9 1 16 := Elem.of (.string ⟨#[]⟩) rfl (by kernel_rfl) rfl (by omega)

/-- no text -/
def nos : ByteArray := ⟨#[]⟩
def st0 : St := ⟨nos, 0, false, false⟩
def got (r : Res) : St := ⟨if r.has then r.val else nos, r.ver, r.has, false⟩
def seen (s : St) : St := ⟨if s.is then s.val else nos, s.ver, s.is, false⟩
def after (s : St) (r : Res) : St :=
  if r.kind = 1 then (if r.err = 0 then ⟨r.val, r.ver, true, false⟩ else { s with un := true })
  else if r.kind = 2 then (if r.err = 0 then ⟨nos, r.ver, false, false⟩ else { s with un := true })
  else if r.kind = 3 then (if r.err = 0 then got r else s) else s
def fits (s : St) (r : Res) : Bool :=
  if r.err ≠ 0 then true else if r.kind = 1 ∨ r.kind = 2 then decide (s.ver < r.ver)
  else if r.kind = 3 then (if s.un then decide (s.ver ≤ r.ver) else decide (got r = seen s)) else true

theorem RowsOf.res {w : World} {oa : Option Addr} {n : Nat} {l : List Res} (h : RowsOf Res.cells w oa n l) {i : Nat} (hi : i < l.length) :
    ∃ b o, oa = some ⟨b, o, none⟩ ∧ b < w.heap.size ∧ w.cell? ⟨b, o + i * 8, none⟩ = some (.int .i64 l[i].job) ∧ w.cell? ⟨b, o + i * 8 + 1, none⟩ = some (.int .i64 l[i].kind) ∧ w.cell? ⟨b, o + i * 8 + 2, none⟩ = some (.int .i64 l[i].ver) ∧
      w.cell? ⟨b, o + i * 8 + 3, none⟩ = some (.string l[i].key) ∧ w.cell? ⟨b, o + i * 8 + 4, none⟩ = some (.string l[i].val) ∧ w.cell? ⟨b, o + i * 8 + 5, none⟩ = some (.bool l[i].has) ∧
      w.cell? ⟨b, o + i * 8 + 6, none⟩ = some (.bool l[i].gone) ∧ w.cell? ⟨b, o + i * 8 + 7, none⟩ = some (.int .i64 l[i].err) := by
  obtain ⟨b, o, e, hlt, hc⟩ := h.elem (k := 8) (fun _ => rfl) (by omega) hi
  exact ⟨b, o, e, hlt, hc 0 (by omega), hc 1 (by omega), hc 2 (by omega), hc 3 (by omega), hc 4 (by omega), hc 5 (by omega), hc 6 (by omega), hc 7 (by omega)⟩

theorem got25 (r : Res) (w : World) : Calls Try.prog 25 #[.agg r.cells.toArray] w fun e w' => e = .returned (.agg (got r).cells.toArray) ∧ Below w.heap.size w w' := by
  obtain ⟨job, kind, ver, key, val, has, gone, err⟩ := r
  simp only [Res.cells]
  cases has
  · go_enter Try.func25, Try.ntmps25
    go_wp2
    refine bodyPost_ret (v := .agg #[.string nos, .int .i64 ver, .bool false, .bool false]) (by simp [results, Try.results25, go_sem, nos]) rfl ⟨rfl, by (with_reducible try refine Lib.hid ?_); (repeat (with_reducible first | assumption | exact Below.refl _ _ | apply Below.drew | apply Below.drewN' | apply Below.setCell | apply Below.alloc)) <;> (try simp [length_fillTo, length_turnTo]) <;> (try omega)⟩
  · go_enter Try.func25, Try.ntmps25
    go_wp2
    refine bodyPost_ret (v := .agg #[.string val, .int .i64 ver, .bool true, .bool false]) (by simp [results, Try.results25, go_sem]) rfl ⟨rfl, by (with_reducible try refine Lib.hid ?_); (repeat (with_reducible first | assumption | exact Below.refl _ _ | apply Below.drew | apply Below.drewN' | apply Below.setCell | apply Below.alloc)) <;> (try simp [length_fillTo, length_turnTo]) <;> (try omega)⟩
theorem seen26 (s : St) (w : World) : Calls Try.prog 26 #[.agg s.cells.toArray] w fun e w' => e = .returned (.agg (seen s).cells.toArray) ∧ Below w.heap.size w w' := by
  obtain ⟨val, ver, is, un⟩ := s
  simp only [St.cells]
  cases is
  · go_enter Try.func26, Try.ntmps26
    go_wp2
    refine bodyPost_ret (v := .agg #[.string nos, .int .i64 ver, .bool false, .bool false]) (by simp [results, Try.results26, go_sem, nos]) rfl ⟨rfl, by (with_reducible try refine Lib.hid ?_); (repeat (with_reducible first | assumption | exact Below.refl _ _ | apply Below.drew | apply Below.drewN' | apply Below.setCell | apply Below.alloc)) <;> (try simp [length_fillTo, length_turnTo]) <;> (try omega)⟩
  · go_enter Try.func26, Try.ntmps26
    go_wp2
    refine bodyPost_ret (v := .agg #[.string val, .int .i64 ver, .bool true, .bool false]) (by simp [results, Try.results26, go_sem]) rfl ⟨rfl, by (with_reducible try refine Lib.hid ?_); (repeat (with_reducible first | assumption | exact Below.refl _ _ | apply Below.drew | apply Below.drewN' | apply Below.setCell | apply Below.alloc)) <;> (try simp [length_fillTo, length_turnTo]) <;> (try omega)⟩
end Go.Proofs.Ytnfkjicoielpnaa
