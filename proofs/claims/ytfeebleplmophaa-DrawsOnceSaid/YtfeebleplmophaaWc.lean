/-
  Walks: a number is marked as seen.
-/
import Derived.Test.YtfeebleplmophaaWa
import Derived.Test.YtfeebleplmophaaWb
namespace Go.Proofs.Ytfeebleplmophaa
open Go.RowKit
set_option maxHeartbeats 1000000
set_option maxRecDepth 20000
set_option linter.unusedVariables false
set_option linter.unusedSimpArgs false

theorem Kept.set1 (w : World) (b o : Nat) (u : Value) : Kept [b] w (w.setCell ⟨b, o, none⟩ u) := Kept.setCell (a := ⟨b, o, none⟩)
theorem load20 (a : Addr) (d : Int) (w : World) (h : w.cell? a = some (.int .u32 d)) :
    Calls Try.prog 20 #[.pointer (some a)] w fun e w' => e = .returned (.bool (d != 0)) ∧ w' = w := by
  have hl := run_call_load (P := Try.prog) Try.func22 (by kernel_rfl) (by kernel_rfl) (by kernel_rfl) .u32 (by kernel_rfl) h
  clear h
  go_enter Try.func20, Try.ntmps20
  go_wp2
  refine bodyPost_ret (v := .bool (d != 0)) (by simp [results, Try.results20, go_sem]) rfl ⟨rfl, rfl⟩

theorem close19 (b : Nat) (pl : Addr) (c0 c1 c2 v s x : Value) (w : World) (hp : w.cell? pl = some (.pointer (some ⟨b, 0, none⟩))) (hB : Blk w b [c0, c1, c2, v, s, x]) :
    Calls Try.prog 19 #[.pointer (some pl)] w fun e w' => e = .returned (.tuple #[]) ∧ (Blk w' b [c0, c1, c2, v, .map (some w.heap.size), x] ∧ w'.ownsMap (H := Unit) Try.prog 30 unitElem w.heap.size 0 (.map [])) ∧ Kept [b] w w' := by
  have hmm := @run_makeMap Try.prog
  have hpl : pl.block < w.heap.size := World.block_lt_of_cell? w pl hp
  have hbl := hB.lt
  have c4 := hB.at' 4 (by simp)
  have cz := hB.froz
  have HB := Lib.hid hB
  clear hB
  go_enter Try.func19, Try.ntmps19
  go_wp2
  go_end0
  have hsz : (w.setCell ⟨b, 4, none⟩ (.map (some w.heap.size))).heap.size = w.heap.size := by simp [World.setCell]
  refine ⟨rfl, ⟨((HB.out.set 4 (by simp) (.map (some w.heap.size))).alloc _).cast rfl, ?_⟩, ?_⟩
  · have := World.ownsMap_made (H := Unit) (w.setCell ⟨b, 4, none⟩ (.map (some w.heap.size))) Try.prog 30 unitElem
    rwa [hsz] at this
  · exact Kept.trans (Kept.setCell (a := ⟨b, 4, none⟩)) (Kept.alloc _) (fun x hx => by cases hx)

/-- a map and a block behind a store to a block, or a draw -/
theorem ownsMap_set {w : World} {m n : Nat} {D : DataW Unit} (h : w.ownsMap Try.prog 30 unitElem m n D) {a : Addr} (ha : m ≠ a.block) (u : Value) : (w.setCell a u).ownsMap Try.prog 30 unitElem m n D := h.setCell ha u

theorem slow21 (b : Nat) (pl : Addr) (hpb : ¬ b = pl.block) (v s x : Value) (w : World) (hp : w.cell? pl = some (.pointer (some ⟨b, 0, none⟩))) (hB : Blk w b [.int .u32 0, .int .i32 0, .int .u32 0, v, s, x]) :
    Calls Try.prog 21 #[.pointer (some ⟨b, 0, none⟩), .func (.func 19) #[] #[.pointer (some pl)]] w fun e w' => e = .returned (.tuple #[]) ∧ ∃ m, Blk w' b [.int .u32 1, .int .i32 0, .int .u32 0, v, .map (some m), x] ∧ w'.ownsMap (H := Unit) Try.prog 30 unitElem m 0 (.map []) ∧ w.heap.size ≤ m ∧ Kept [b] w w' := by
  have hnot : ∀ (x : Bool) (w : World), (Op.unary .not (.bool x)).run Try.prog w = .ok (.bool (!x)) w := fun _ _ => rfl
  have h1 := hB.at' 1 (by simp)
  have f1 := hB.froz 1
  have hB1 : Blk (w.setCell ⟨b, 1, none⟩ (.int .i32 1)) b [.int .u32 0, .int .i32 1, .int .u32 0, v, s, x] := hB.set 1 (by simp) _
  have hk1 : Kept [b] w (w.setCell ⟨b, 1, none⟩ (.int .i32 1)) := Kept.set1 _ _ _ _
  have hp1 : (w.setCell ⟨b, 1, none⟩ (.int .i32 1)).cell? pl = some (.pointer (some ⟨b, 0, none⟩)) := (World.cell?_setCell_other _ ⟨b, 1, none⟩ pl _ (fun h => hpb (by rw [← h]))).trans hp
  have HB1 := Lib.hid hB1; have HK1 := Lib.hid hk1; have HP1 := Lib.hid hp1
  clear hB hB1 hk1 hp1 hp
  go_enter_defers Try.func21, Try.ntmps21
  go_wp2_with fail
  refine (lock_free ⟨b, 1, none⟩ w h1 f1).mono ?_
  rintro r w' ⟨rfl, rfl⟩
  have hsz : (w.setCell ⟨b, 1, none⟩ (.int .i32 1)).heap.size = w.heap.size := by simp [World.setCell]
  generalize w.setCell ⟨b, 1, none⟩ (.int .i32 1) = W1 at *
  clear h1 f1
  go_wp2_with fail
  refine (load20 ⟨b, 0, none⟩ 0 W1 (HB1.out.at' 0 (by simp))).mono ?_
  rintro r Wx ⟨rfl, hwx⟩
  rw [hwx]
  clear hwx
  go_wp2_with fail
  refine (close19 b pl _ _ _ v s x _ HP1.out HB1.out).mono ?_
  rintro r W2 ⟨rfl, ⟨hB2, hm2⟩, hk2⟩
  have HB2 := Lib.hid hB2; have HM2 := Lib.hid hm2; have HK2 := Lib.hid (HK1.out.trans hk2 (fun x hx => .inl hx))
  clear hB2 hm2 hk2
  go_wp2
  have hm := HM2.out.lt
  refine leaves_cons (f := 25) (args := #[.pointer (some ⟨b, 0, none⟩), .bool true]) (by simp) (by simp [go_sem]) ?_
  refine (store_deferred ⟨b, 0, none⟩ (.int .u32 0) .returning _ (HB2.out.at' 0 (by simp)) (HB2.out.froz 0)).mono ?_
  rintro e u' w'' ⟨rfl, rfl, rfl⟩
  have hB3 : Blk (W2.drew.setCell ⟨b, 0, none⟩ (.int .u32 1)) b [.int .u32 1, .int .i32 1, .int .u32 0, v, .map (some W1.heap.size), x] := HB2.out.drew.set 0 (by simp) _
  have hbm : ¬ W1.heap.size = b := by have := HB1.out.lt; omega
  have hM3 := ownsMap_set (HM2.out.drew) (a := ⟨b, 0, none⟩) hbm (.int .u32 1)
  have hK3 : Kept [b] w (W2.drew.setCell ⟨b, 0, none⟩ (.int .u32 1)) := (HK2.out.trans Kept.drew (fun x hx => by cases hx)).trans (Kept.set1 _ _ _ _) (fun x hx => .inl hx)
  generalize W2.drew.setCell ⟨b, 0, none⟩ (.int .u32 1) = W3 at *
  refine leaves_cons (f := 24) (args := #[.pointer (some ⟨b, 1, none⟩)]) (by simp [settle]) (by simp [go_sem]) ?_
  refine (unlock_deferred ⟨b, 1, none⟩ _ W3 (hB3.at' 1 (by simp)) (hB3.froz 1)).mono ?_
  rintro e u' w'' ⟨rfl, rfl, rfl⟩
  have hB4 : Blk (W3.setCell ⟨b, 1, none⟩ (.int .i32 0)) b [.int .u32 1, .int .i32 0, .int .u32 0, v, .map (some W1.heap.size), x] := hB3.set 1 (by simp) _
  have hM4 := ownsMap_set hM3 (a := ⟨b, 1, none⟩) hbm (.int .i32 0)
  have hK4 : Kept [b] w (W3.setCell ⟨b, 1, none⟩ (.int .i32 0)) := hK3.trans (Kept.set1 _ _ _ _) (fun x hx => .inl hx)
  have hfin : ∃ m, Blk (W3.setCell ⟨b, 1, none⟩ (.int .i32 0)) b [.int .u32 1, .int .i32 0, .int .u32 0, v, .map (some m), x] ∧ (W3.setCell ⟨b, 1, none⟩ (.int .i32 0)).ownsMap (H := Unit) Try.prog 30 unitElem m 0 (.map []) ∧ w.heap.size ≤ m ∧ Kept [b] w (W3.setCell ⟨b, 1, none⟩ (.int .i32 0)) :=
    ⟨_, hB4, hM4, by omega, hK4⟩
  have HF := Lib.hid hfin
  clear hfin
  simp [Leaves, settle, results, Try.results21]
  exact HF.out

theorem do_first (b : Nat) (pl : Addr) (hpb : ¬ b = pl.block) (v s x : Value) (w : World) (hp : w.cell? pl = some (.pointer (some ⟨b, 0, none⟩))) (hB : Blk w b [.int .u32 0, .int .i32 0, .int .u32 0, v, s, x]) :
    Calls Try.prog 18 #[.pointer (some ⟨b, 0, none⟩), .func (.func 19) #[] #[.pointer (some pl)]] w fun e w' => e = .returned (.tuple #[]) ∧ ∃ m, Blk w' b [.int .u32 1, .int .i32 0, .int .u32 0, v, .map (some m), x] ∧ w'.ownsMap (H := Unit) Try.prog 30 unitElem m 0 (.map []) ∧ w.heap.size ≤ m ∧ Kept [b] w w' := by
  have hnot : ∀ (x : Bool) (w : World), (Op.unary .not (.bool x)).run Try.prog w = .ok (.bool (!x)) w := fun _ _ => rfl
  have HS := slow21 b pl hpb v s x w hp hB
  have HL := load20 ⟨b, 0, none⟩ 0 w (hB.at' 0 (by simp))
  clear hp hB hpb
  go_enter Try.func18, Try.ntmps18
  go_wp2_with fail
  refine HL.mono ?_
  rintro r w' ⟨rfl, rfl⟩
  clear HL
  go_wp2_with fail
  refine HS.mono ?_
  rintro r w' ⟨rfl, h⟩
  have H := Lib.hid h
  clear h HS
  go_wp2
  go_end0
  exact ⟨rfl, H.out⟩
theorem do_done (b : Nat) (pl : Addr) (v s x : Value) (w : World) (hB : Blk w b [.int .u32 1, .int .i32 0, .int .u32 0, v, s, x]) :
    Calls Try.prog 18 #[.pointer (some ⟨b, 0, none⟩), .func (.func 19) #[] #[.pointer (some pl)]] w fun e w' => e = .returned (.tuple #[]) ∧ w' = w := by
  have hnot : ∀ (x : Bool) (w : World), (Op.unary .not (.bool x)).run Try.prog w = .ok (.bool (!x)) w := fun _ _ => rfl
  have HL := load20 ⟨b, 0, none⟩ 1 w (hB.at' 0 (by simp))
  clear hB
  go_enter Try.func18, Try.ntmps18
  go_wp2_with fail
  refine HL.mono ?_
  rintro r w' ⟨rfl, rfl⟩
  clear HL
  go_wp2
  go_end0
  exact ⟨rfl, rfl⟩
end Go.Proofs.Ytfeebleplmophaa
