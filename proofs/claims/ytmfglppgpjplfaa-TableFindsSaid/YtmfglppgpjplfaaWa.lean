/-
  Sessions: what they are in memory; great ones; entries of one node.
-/
import Derived.Test.YtmfglppgpjplfaaBig
import Derived.Test.YtmfglppgpjplfaaPlan
import Derived.Test.YtmfglppgpjplfaaOpen
import Derived.KernelRfl
import Derived.Test.YtmfglppgpjplfaaProg
import Derived.Walk
namespace Go.Proofs.Ytmfglppgpjplfaa
open Go.RowKit
set_option maxHeartbeats 1000000
set_option maxRecDepth 20000
set_option linter.unusedVariables false
set_option linter.unusedSimpArgs false

structure En where
  name : ByteArray
  id : Nat
  frm : Int
  til : Int
  idx : Int
  tag : ByteArray
  deriving DecidableEq
def En.cells (e : En) : List Value := [.string e.name, .int .u64 e.id, .int .i64 e.frm, .int .i64 e.til, .int .i64 e.idx, .string e.tag]
structure Ses where
  id : Nat
  nonce : Nat
  peer : En
  role : Int
  state : Int
  send : ByteArray
  hear : ByteArray
  epoch : Int
  count : Int
  since : Int
  seq : Int
  top : Int
  low : Nat
  high : Nat
  used : Int
  deriving DecidableEq
def Ses.cells (s : Ses) : List Value := [.int .u64 s.id, .int .u64 s.nonce, .string s.peer.name, .int .u64 s.peer.id, .int .i64 s.peer.frm, .int .i64 s.peer.til, .int .i64 s.peer.idx, .string s.peer.tag,
  .int .i64 s.role, .int .i64 s.state, .string s.send, .string s.hear, .int .i64 s.epoch, .int .i64 s.count, .int .i64 s.since, .int .i64 s.seq, .int .i64 s.top, .int .u64 s.low, .int .u64 s.high, .int .i64 s.used]
theorem row30 : RowTy Try.prog 30 20 := ⟨⟨_, rfl, rfl⟩, by kernel_rfl⟩
theorem row26 : RowTy Try.prog 26 6 := ⟨⟨_, rfl, rfl⟩, by kernel_rfl⟩
theorem el22 : Elem Try.prog 22 30 20 192 := Elem.of (.agg #[.int .u64 0, .int .u64 0, .string ⟨#[]⟩, .int .u64 0, .int .i64 0, .int .i64 0, .int .i64 0, .string ⟨#[]⟩,
  .int .i64 0, .int .i64 0, .string ⟨#[]⟩, .string ⟨#[]⟩, .int .i64 0, .int .i64 0, .int .i64 0, .int .i64 0, .int .i64 0, .int .u64 0, .int .u64 0, .int .i64 0]) rfl (by kernel_rfl) rfl (by omega)
abbrev RSes := Rws Ses.cells
theorem ses_len (l : List Ses) : (l.flatMap Ses.cells).length = l.length * 20 := flat_length (k := 20) (fun _ => rfl) l
theorem ses_one (s : Ses) : ∀ v ∈ s.cells, v.oneCell' = true := by
  intro v hv
  simp [Ses.cells] at hv
  rcases hv with rfl | rfl | rfl | rfl | rfl | rfl | rfl | rfl | rfl | rfl | rfl | rfl | rfl | rfl | rfl | rfl | rfl | rfl | rfl | rfl <;> rfl
theorem ses_oneCells (l : List Ses) : ∀ u ∈ l.flatMap Ses.cells, u.oneCell' = true := by
  intro u hu
  obtain ⟨p, -, hp⟩ := List.mem_flatMap.1 hu
  exact ses_one p u hp
theorem RowsOf.ses {w : World} {oa : Option Addr} {n : Nat} {l : List Ses} (h : RowsOf Ses.cells w oa n l) {i : Nat} (hi : i < l.length) : ∃ b o, oa = some ⟨b, o, none⟩ ∧ At w b (o + i * 20) l[i].cells :=
  h.at_ (k := 20) (fun _ => rfl) (by omega) hi

def bigE (e : En) : Bool := decide (1000 < e.name.size) || decide (1000 < e.tag.size)
def SesOk (e : Ending) : Prop := ∃ b, e = .returned (.bool b)
theorem greatE13 (e : En) (w : World) : Calls Try.prog 13 #[.agg e.cells.toArray] w fun r w' => SesOk r ∧ Below w.heap.size w w' := by
  obtain ⟨name, id, frm, til, idx, tag⟩ := e
  simp only [En.cells]
  by_cases h1 : (1000 : Int) < (name.size : Int)
  · go_enter Try.func13, Try.ntmps13
    go_wp2
    refine bodyPost_ret (v := .bool true) (by simp [results, Try.results13, go_sem]) rfl ⟨⟨true, rfl⟩, by (with_reducible try refine Lib.hid ?_); (repeat (with_reducible first | assumption | exact Below.refl _ _ | apply Below.drew | apply Below.drewN' | apply Below.setCell | apply Below.alloc)) <;> (try simp [length_fillTo, length_turnTo]) <;> (try omega)⟩
  · by_cases h2 : (1000 : Int) < (tag.size : Int)
    · go_enter Try.func13, Try.ntmps13
      go_wp2
      refine bodyPost_ret (v := .bool true) (by simp [results, Try.results13, go_sem]) rfl ⟨⟨true, rfl⟩, by (with_reducible try refine Lib.hid ?_); (repeat (with_reducible first | assumption | exact Below.refl _ _ | apply Below.drew | apply Below.drewN' | apply Below.setCell | apply Below.alloc)) <;> (try simp [length_fillTo, length_turnTo]) <;> (try omega)⟩
    · go_enter Try.func13, Try.ntmps13
      go_wp2
      refine bodyPost_ret (v := .bool false) (by simp [results, Try.results13, go_sem]) rfl ⟨⟨false, rfl⟩, by (with_reducible try refine Lib.hid ?_); (repeat (with_reducible first | assumption | exact Below.refl _ _ | apply Below.drew | apply Below.drewN' | apply Below.setCell | apply Below.alloc)) <;> (try simp [length_fillTo, length_turnTo]) <;> (try omega)⟩
theorem greatS8 (s : Ses) (w : World) : Calls Try.prog 8 #[.agg s.cells.toArray] w fun r w' => SesOk r ∧ Below w.heap.size w w' := by
  obtain ⟨id, nonce, ⟨pn, pi, pf, pt, px, pg⟩, role, state, send, hear, epoch, count, since, seq, top, low, high, used⟩ := s
  simp only [Ses.cells]
  by_cases h1 : (300 : Int) < (send.size : Int)
  · go_enter Try.func8, Try.ntmps8
    go_wp2
    refine bodyPost_ret (v := .bool true) (by simp [results, Try.results8, go_sem]) rfl ⟨⟨true, rfl⟩, by (with_reducible try refine Lib.hid ?_); (repeat (with_reducible first | assumption | exact Below.refl _ _ | apply Below.drew | apply Below.drewN' | apply Below.setCell | apply Below.alloc)) <;> (try simp [length_fillTo, length_turnTo]) <;> (try omega)⟩
  · by_cases h2 : (300 : Int) < (hear.size : Int)
    · go_enter Try.func8, Try.ntmps8
      go_wp2
      refine bodyPost_ret (v := .bool true) (by simp [results, Try.results8, go_sem]) rfl ⟨⟨true, rfl⟩, by (with_reducible try refine Lib.hid ?_); (repeat (with_reducible first | assumption | exact Below.refl _ _ | apply Below.drew | apply Below.drewN' | apply Below.setCell | apply Below.alloc)) <;> (try simp [length_fillTo, length_turnTo]) <;> (try omega)⟩
    · have hal : Below w.heap.size w (w.alloc (.cells (Ses.cells ⟨id, nonce, ⟨pn, pi, pf, pt, px, pg⟩, role, state, send, hear, epoch, count, since, seq, top, low, high, used⟩).toArray 30)) := (Below.refl _ _).alloc (Nat.le_refl _) _
      have HAL := Lib.hid hal; clear hal
      go_enter Try.func8, Try.ntmps8
      go_wp2_with fail
      refine (greatE13 ⟨pn, pi, pf, pt, px, pg⟩ _).mono ?_
      rintro r w1 ⟨⟨b, rfl⟩, hb⟩
      have HB := Lib.hid (below_step HAL.out hb); clear hb HAL
      go_wp2
      refine bodyPost_ret (v := .bool b) (by simp [results, Try.results8, go_sem]) rfl ⟨⟨b, rfl⟩, HB.out⟩
def GreatOk (n : Nat) (e : Ending) : Prop := ∃ b, e = .returned (.bool b) ∧ (b = false → n ≤ 60)
theorem great7 (l : List Ses) (w : World) (oa : Option Addr) (n c : Nat) (h : RSes w oa n c l) :
    Calls Try.prog 7 #[.slice oa n c] w fun r w' => GreatOk l.length r ∧ Below w.heap.size w w' := by
  obtain rfl : n = l.length := h.rows.len
  have H := Lib.hid h; clear h
  by_cases hlen : 60 < l.length
  · have hlen' : (60 : Int) < (l.length : Int) := by omega
    clear hlen
    go_enter Try.func7, Try.ntmps7
    go_wp2
    refine bodyPost_ret (v := .bool true) (by simp [results, Try.results7, go_sem]) rfl ⟨⟨true, rfl, fun h => by simp at h⟩, Below.refl _ _⟩
  · have hlen' : ¬ (60 : Int) < (l.length : Int) := by omega
    have HLEN : Hid (l.length ≤ 60) := by show _ ≤ _; omega
    go_enter Try.func7, Try.ntmps7
    go_wp2
    clear hlen hlen'
    go_loopw [3] (fun i wr => ∃ (k : Nat), k ≤ l.length ∧ i = .int .i64 k ∧ Hid (Below w.heap.size w wr)) (fun i _ => l.length - (intOf i).toNat)
    case atStart => exact ⟨0, by omega, rfl, by (with_reducible try refine Lib.hid ?_); (repeat (with_reducible first | assumption | exact Below.refl _ _ | apply Below.drew | apply Below.drewN' | apply Below.setCell | apply Below.alloc)) <;> (try simp [length_fillTo, length_turnTo]) <;> (try omega)⟩
    case round =>
      obtain ⟨k, hk, rfl, hbel⟩ := hrel
      by_cases hlt : k < l.length
      · have hi1 : (k : Int) < (l.length : Int) := by omega
        have rk : IntKind.i64.wrap ((k : Int) + 1) = ((k + 1 : Nat) : Int) := by
          have h1 := HLEN.out
          rw [IntKind.wrap_i64]; omega
        obtain ⟨b1, p1, rfl, hA⟩ := (H.out.rows.below hbel.out).ses hlt
        obtain ⟨s, hs⟩ : ∃ s, l[k] = s := ⟨_, rfl⟩
        rw [hs] at hA
        clear hs
        go_wp2_with (refine stop_load (ty := 30) rfl ?_)
        refine ⟨wpList_load_at rfl rfl hA (by rfl) row30 ?_⟩
        clear hA
        go_wp2_with fail
        refine (greatS8 s wr).mono ?_
        rintro r w1 ⟨⟨b, rfl⟩, hb⟩
        have HB := Lib.hid (below_step hbel.out hb); clear hb hbel
        cases b
        · go_wp2
          go_roundw
          case measure => (simp [intOf]) <;> omega
          case rel => exact ⟨k + 1, by omega, rfl, HB⟩
        · go_wp2
          refine bodyPost_ret (v := .bool true) (by simp [results, Try.results7, go_sem]) rfl ⟨⟨true, rfl, fun h => by simp at h⟩, HB.out⟩
      · obtain rfl : k = l.length := by omega
        go_wp2
        refine bodyPost_ret (v := .bool false) (by simp [results, Try.results7, go_sem]) rfl ⟨⟨false, rfl, fun _ => HLEN.out⟩, hbel.out⟩

def whoD (a b : En) : Bool := decide (a.name = b.name) && decide (a.id = b.id)
theorem who38 (a b : En) (w : World) : Calls Try.prog 38 #[.agg a.cells.toArray, .agg b.cells.toArray] w fun r w' => r = .returned (.bool (whoD a b)) ∧ Below w.heap.size w w' := by
  obtain ⟨an, ai, af, at', ax, ag⟩ := a
  obtain ⟨bn, bi, bf, bt, bx, bg⟩ := b
  have HW : Hid (whoD ⟨an, ai, af, at', ax, ag⟩ ⟨bn, bi, bf, bt, bx, bg⟩ = (decide (an = bn) && decide (ai = bi))) := rfl
  simp only [En.cells]
  by_cases h1 : an = bn
  · subst h1
    by_cases h2 : ai = bi
    · subst h2
      go_enter Try.func38, Try.ntmps38
      go_wp2
      refine bodyPost_ret (v := .bool true) (by simp [results, Try.results38, go_sem]) rfl ⟨by rw [HW.out]; simp, by (with_reducible try refine Lib.hid ?_); (repeat (with_reducible first | assumption | exact Below.refl _ _ | apply Below.drew | apply Below.drewN' | apply Below.setCell | apply Below.alloc)) <;> (try simp [length_fillTo, length_turnTo]) <;> (try omega)⟩
    · have h2' : ¬ (ai : Int) = (bi : Int) := by omega
      go_enter Try.func38, Try.ntmps38
      go_wp2
      refine bodyPost_ret (v := .bool false) (by simp [results, Try.results38, go_sem]) rfl ⟨by rw [HW.out]; simp [h2], by (with_reducible try refine Lib.hid ?_); (repeat (with_reducible first | assumption | exact Below.refl _ _ | apply Below.drew | apply Below.drewN' | apply Below.setCell | apply Below.alloc)) <;> (try simp [length_fillTo, length_turnTo]) <;> (try omega)⟩
  · have hne := strne h1
    go_enter Try.func38, Try.ntmps38
    go_wp2
    refine bodyPost_ret (v := .bool false) (by simp [results, Try.results38, go_sem]) rfl ⟨by rw [HW.out]; simp [h1], by (with_reducible try refine Lib.hid ?_); (repeat (with_reducible first | assumption | exact Below.refl _ _ | apply Below.drew | apply Below.drewN' | apply Below.setCell | apply Below.alloc)) <;> (try simp [length_fillTo, length_turnTo]) <;> (try omega)⟩
end Go.Proofs.Ytmfglppgpjplfaa
