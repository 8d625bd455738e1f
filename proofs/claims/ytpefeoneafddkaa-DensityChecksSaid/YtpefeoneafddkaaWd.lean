/-
  The walk of works: the chapter's example holds.
-/
import Derived.Test.YtpefeoneafddkaaWc
namespace Go.Proofs.Ytpefeoneafddkaa
open Go.RowKit Go.Proofs.Ytpefeoneafddkaa.Eager
set_option maxHeartbeats 400000
set_option linter.unusedVariables false
set_option linter.unusedSimpArgs false

def meW : Ent := ⟨⟨#[97]⟩, 0, 0, 0, 0, ⟨#[]⟩⟩
def peerW : Peer := ⟨⟨⟨#[98]⟩, 10, 0, 0, 0, ⟨#[]⟩⟩, 0, 0⟩
def ownW (i : UInt64) : Ent := ⟨⟨#[]⟩, i, 0, 0, 0, ⟨#[]⟩⟩

theorem span9_w (oa : Option Addr) (w : World) (h : RowsOf Peer.cells w oa 1 [peerW]) :
    Calls Try.prog 9 #[.agg #[.string ⟨#[97]⟩, .int .u64 0, .int .i64 0, .int .i64 0, .int .i64 0, .string ⟨#[]⟩], .slice oa 1 1] w fun r w' => r = .returned (.int .u64 10) ∧ Below w.heap.size w w' :=
  span9 meW oa 1 1 [peerW] w h (by decide)
theorem near12_w (oa : Option Addr) (w : World) (h : RowsOf Peer.cells w oa 1 [peerW]) :
    Calls Try.prog 12 #[.agg #[.string ⟨#[97]⟩, .int .u64 0, .int .i64 0, .int .i64 0, .int .i64 0, .string ⟨#[]⟩], .slice oa 1 1, .int .u64 0, .agg #[.string ⟨#[]⟩, .int .u64 640, .int .i64 0, .int .i64 0, .int .i64 0, .string ⟨#[]⟩]] w fun r w' => r = .returned (.bool true) ∧ Below w.heap.size w w' :=
  near12 meW (ownW 640) oa 1 1 [peerW] 0 w h (by decide)
theorem check11_w (oa : Option Addr) (w : World) (h : RowsOf Peer.cells w oa 1 [peerW]) :
    Calls Try.prog 11 #[.agg #[.string ⟨#[97]⟩, .int .u64 0, .int .i64 0, .int .i64 0, .int .i64 0, .string ⟨#[]⟩], .slice oa 1 1, .int .u64 0, .agg #[.string ⟨#[]⟩, .int .u64 641, .int .i64 0, .int .i64 0, .int .i64 0, .string ⟨#[]⟩]] w fun r w' => r = .returned (.int .i64 42) ∧ Below w.heap.size w w' :=
  check11 meW (ownW 641) oa 1 1 [peerW] 0 w h (by decide)
theorem check11_n (w : World) :
    Calls Try.prog 11 #[.agg #[.string ⟨#[97]⟩, .int .u64 0, .int .i64 0, .int .i64 0, .int .i64 0, .string ⟨#[]⟩], .slice none 0 0, .int .u64 0, .agg #[.string ⟨#[]⟩, .int .u64 641, .int .i64 0, .int .i64 0, .int .i64 0, .string ⟨#[]⟩]] w fun r w' => r = .returned (.int .i64 0) ∧ Below w.heap.size w w' :=
  check11 meW (ownW 641) none 0 0 [] 0 w (RowsOf.nil _ _) (by decide)

theorem works7 (w : World) : Calls Try.prog 7 #[] w fun e w' => e = .returned (.bool true) ∧ Below w.heap.size w w' := by
  have hr := Cells.new (w := w.alloc (.cells #[.string ⟨#[97]⟩, .int .u64 0, .int .i64 0, .int .i64 0, .int .i64 0, .string ⟨#[]⟩] 24)) (cs := [.string ⟨#[98]⟩, .int .u64 10, .int .i64 0, .int .i64 0, .int .i64 0, .string ⟨#[]⟩, .int .i64 0, .int .i64 0]) (e := 36) (fr := (0, 0))
  rw [show (w.alloc (.cells #[.string ⟨#[97]⟩, .int .u64 0, .int .i64 0, .int .i64 0, .int .i64 0, .string ⟨#[]⟩] 24)).heap.size = w.heap.size + 1 by simp] at hr
  have h0 : Below w.heap.size w ((w.alloc (.cells #[.string ⟨#[97]⟩, .int .u64 0, .int .i64 0, .int .i64 0, .int .i64 0, .string ⟨#[]⟩] 24)).alloc (.cells #[.string ⟨#[98]⟩, .int .u64 10, .int .i64 0, .int .i64 0, .int .i64 0, .string ⟨#[]⟩, .int .i64 0, .int .i64 0] 36)) := ((Below.refl _ _).alloc (Nat.le_refl _) _).alloc (by simp) _
  have HR := Lib.hid hr; have H0 := Lib.hid h0; clear hr h0
  go_enter Try.func7, Try.ntmps7
  go_wp2_with fail
  generalize hW0 : ((w.alloc (.cells #[.string ⟨#[97]⟩, .int .u64 0, .int .i64 0, .int .i64 0, .int .i64 0, .string ⟨#[]⟩] 24)).alloc (.cells #[.string ⟨#[98]⟩, .int .u64 10, .int .i64 0, .int .i64 0, .int .i64 0, .string ⟨#[]⟩, .int .i64 0, .int .i64 0] 36)) = W0 at *
  have hrow : RowsOf Peer.cells W0 (some ⟨w.heap.size + 1, 0, none⟩) 1 [peerW] := ⟨rfl, HR.out⟩
  have HROW : Hid (∀ W, Below W0.heap.size W0 W → RowsOf Peer.cells W (some ⟨w.heap.size + 1, 0, none⟩) 1 [peerW]) := fun W h => hrow.below h
  have c0 : ∀ W, Below W0.heap.size W0 W → W.cell? ⟨w.heap.size, 0, none⟩ = some (.string ⟨#[97]⟩) := fun W hb => cell_later hb (by rw [← hW0]; simp [World.cell?_alloc_at, World.cell?_alloc_past])
  have c1 : ∀ W, Below W0.heap.size W0 W → W.cell? ⟨w.heap.size, 1, none⟩ = some (.int .u64 0) := fun W hb => cell_later hb (by rw [← hW0]; simp [World.cell?_alloc_at, World.cell?_alloc_past])
  have c2 : ∀ W, Below W0.heap.size W0 W → W.cell? ⟨w.heap.size, 2, none⟩ = some (.int .i64 0) := fun W hb => cell_later hb (by rw [← hW0]; simp [World.cell?_alloc_at, World.cell?_alloc_past])
  have c3 : ∀ W, Below W0.heap.size W0 W → W.cell? ⟨w.heap.size, 3, none⟩ = some (.int .i64 0) := fun W hb => cell_later hb (by rw [← hW0]; simp [World.cell?_alloc_at, World.cell?_alloc_past])
  have c4 : ∀ W, Below W0.heap.size W0 W → W.cell? ⟨w.heap.size, 4, none⟩ = some (.int .i64 0) := fun W hb => cell_later hb (by rw [← hW0]; simp [World.cell?_alloc_at, World.cell?_alloc_past])
  have c5 : ∀ W, Below W0.heap.size W0 W → W.cell? ⟨w.heap.size, 5, none⟩ = some (.string ⟨#[]⟩) := fun W hb => cell_later hb (by rw [← hW0]; simp [World.cell?_alloc_at, World.cell?_alloc_past])
  clear hW0 HR hrow
  refine (span9_w _ _ (HROW.out _ (Below.refl _ _))).mono ?_
  rintro r w1 ⟨rfl, h1⟩
  go_wp2_with fail
  refine (near12_w _ _ (HROW.out _ h1)).mono ?_
  rintro r w2 ⟨rfl, hb2⟩
  have h2 := below_step h1 hb2
  clear hb2 h1
  go_wp2_with fail
  refine (check11_w _ _ (HROW.out _ h2)).mono ?_
  rintro r w3 ⟨rfl, hb3⟩
  have h3 := below_step h2 hb3
  clear hb3 h2
  go_wp2_with fail
  refine (check11_n _).mono ?_
  rintro r w4 ⟨rfl, hb4⟩
  have h4 := below_step h3 hb4
  clear hb4 h3
  go_wp2
  go_ret
  exact ⟨rfl, below_step H0.out h4⟩
end Go.Proofs.Ytpefeoneafddkaa
