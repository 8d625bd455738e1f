/-
  Walk: the chapter's example.
-/
import Derived.Test.YthdkgcmoagookaaWn
import Derived.Test.YthdkgcmoagookaaWo
namespace Go.Proofs.Ythdkgcmoagookaa
open Go.RowKit Go.Proofs.Ythdkgcmoagookaa.Plan Go.Proofs.Ythdkgcmoagookaa.Eager
set_option maxHeartbeats 4000000
set_option maxRecDepth 20000
set_option linter.unusedVariables false
set_option linter.unusedSimpArgs false

def z32 : List UInt8 := List.replicate 32 0
def tag32 : ByteArray := ⟨z32.toArray⟩
def pW : Pe := ⟨⟨⟨#[98]⟩, 0, 0, 0, 0, tag32⟩, 0, 0⟩
def nW (b : Nat) : Nd := { nd0 with list := ⟨[pW], some ⟨b, 0, none⟩, 1⟩ }
theorem ex_all (b : Nat) : allD (nW b) = [pW] := (by decide +kernel : (([] ++ [pW] ++ ([] : List Fi).map Fi.peer).filter nzD) = [pW])
theorem ex_bad0 : decide (badD nd0 [] = []) = true := by decide +kernel
theorem ex_bad (b : Nat) : badD (nW b) [] = [pW] := (by decide +kernel : ((([] ++ [pW] ++ ([] : List Fi).map Fi.peer).filter nzD).filter (badOf [])) = [pW])
theorem ex_bad1 (b : Nat) : decide (badD (nW b) [] = []) = false := by rw [ex_bad]; decide +kernel
theorem ex_good (b : Nat) : decide (badD (nW b) [pW.ent] = []) = true := (by decide +kernel : decide (((([] ++ [pW] ++ ([] : List Fi).map Fi.peer).filter nzD).filter (badOf [pW.ent])) = []) = true)
theorem ex_apart (b : Nat) : apartD [nW b] = true := by
  have : [nW b].flatMap allD = [pW] := by simp [ex_all]
  unfold apartD
  rw [this]
  decide +kernel
theorem ex_sess (b : Nat) : sessD [] (nW b).sess.l = true := rfl
theorem inNil {α : Type} (f : α → List Value) (w : World) : Sl.In f w ⟨[], none, 0⟩ := ⟨Rws.nil _ _⟩
theorem good0 (w : World) : nd0.Good w := ⟨inNil _ _, inNil _ _, inNil _ _, inNil _ _, ⟨inNil _ _, fun p hp => by simp [nd0] at hp⟩, inNil _ _, ⟨inNil _ _, fun p hp => by simp [nd0] at hp⟩, inNil _ _⟩
theorem goodW {w : World} {b : Nat} (h : Blk w b pW.cells) : (nW b).Good w := ⟨inNil _ _, ⟨Rws.one h⟩, inNil _ _, inNil _ _, ⟨inNil _ _, fun p hp => by simp [nd0, nW] at hp⟩, inNil _ _, ⟨inNil _ _, fun p hp => by simp [nd0, nW] at hp⟩, inNil _ _⟩
theorem few0 : nd0.Few := ⟨by decide, by decide, by decide⟩
theorem fewW (b : Nat) : (nW b).Few := ⟨by simp [nW, nd0], by simp [nW, nd0], by simp [nW, nd0]⟩
theorem cells_6 (p : En) : p.cells.length = 6 := rfl
theorem cells_22 (p : Nd) : p.cells.length = 22 := rfl
theorem fold_en (s : En) : List.foldl (fun (cs : Array Value) (x : Value × Nat) => cs.setIfInBounds x.snd x.fst) #[Value.string ⟨#[]⟩, .int .u64 0, .int .i64 0, .int .i64 0, .int .i64 0, .string ⟨#[]⟩] s.cells.zipIdx = s.cells.toArray := by
  simp [En.cells]
theorem fold_nd (s : Nd) : List.foldl (fun (cs : Array Value) (x : Value × Nat) => cs.setIfInBounds x.snd x.fst) #[Value.string ⟨#[]⟩, .int .u64 0, .int .i64 0, .int .i64 0, .int .i64 0, .string ⟨#[]⟩, .int .i64 0, .string ⟨#[]⟩, .int .i64 0, .string ⟨#[]⟩, .bool false, .slice none 0 0, .slice none 0 0, .slice none 0 0, .slice none 0 0, .slice none 0 0, .slice none 0 0, .slice none 0 0, .int .i64 0, .int .i64 0, .slice none 0 0, .slice none 0 0] s.cells.zipIdx = s.cells.toArray := by
  simp [Nd.cells, En.cells]

theorem works6 (w : World) : Calls Try.prog 6 #[] w fun r w' => r = .returned (.bool true) ∧ Below w.heap.size w w' := by
  have hmk := run_make_blk (P := Try.prog) w 48 5 (.int .u8 0) 1 Try.underlying48 (by kernel_rfl) rfl .i64 .i64 32 (by omega) (by simp [maxLen])
  have hz : Blk (w.alloc (.cells (z32.map By).toArray 5)) w.heap.size (z32.map By) := Blk.new' rfl
  have hcv := run_convert_cells (w.alloc (.cells (z32.map By).toArray 5)) 48 9 5 Try.underlying48 Try.underlying5 Try.underlying9 (some ⟨w.heap.size, 0, none⟩) z32 32 32 (by decide) hz.cells
  have hmk2 : (Instr.makeSlice 48 (.int .i64 32) (.int .i64 32)).run Try.prog w = .ok (.slice (some ⟨w.heap.size, 0, none⟩) 32 32) (w.alloc (.cells (z32.map By).toArray 5)) := hmk
  clear hmk
  go_enter Try.func6, Try.ntmps6
  go_wp2_with (refine stop_store (ty := 50) rfl ?_)
  have hZ : Blk ((w.alloc (.cells (z32.map By).toArray 5)).alloc (.cells ([.string ⟨#[]⟩, .int .u64 0, .int .i64 0, .int .i64 0, .int .i64 0, .string ⟨#[]⟩, .int .i64 0, .int .i64 0] : List Value).toArray 50)) (w.heap.size + 1) [.string ⟨#[]⟩, .int .u64 0, .int .i64 0, .int .i64 0, .int .i64 0, .string ⟨#[]⟩, .int .i64 0, .int .i64 0] := Blk.new' (by simp)
  have hal : Below w.heap.size w ((w.alloc (.cells (z32.map By).toArray 5)).alloc (.cells ([.string ⟨#[]⟩, .int .u64 0, .int .i64 0, .int .i64 0, .int .i64 0, .string ⟨#[]⟩, .int .i64 0, .int .i64 0] : List Value).toArray 50)) := ((Below.refl _ w).alloc (Nat.le_refl _) _).alloc (by simp) _
  refine ⟨wpList_store_blk (vs := pW.cells) rfl rfl hZ (by rfl) (by rfl) row50 rfl (pe_one _) fun W1 hX hg => ?_⟩
  have HB1 := Lib.hid (Below.grownB hal hg (by omega) (by simp; omega))
  have HX1 := Lib.hid hX
  clear hz hcv hmk2 hZ hal hX hg
  go_wp2_with (refine stop_load (ty := 50) rfl ?_)
  refine ⟨wpList_load_blk rfl rfl HX1.out (by rfl) row50 ?_⟩
  have hlc := cells_8 pW
  go_wp2_with (refine stop_store (ty := 41) rfl ?_)
  rw [fold_pe pW]
  have hZ2 : Blk ((W1.alloc (.cells pW.cells.toArray 50)).alloc (.cells nd0.cells.toArray 41)) (W1.heap.size + 1) nd0.cells := Blk.new' (by simp)
  have hP2 : Blk ((W1.alloc (.cells pW.cells.toArray 50)).alloc (.cells nd0.cells.toArray 41)) W1.heap.size pW.cells := (Blk.new' rfl).alloc _
  have hal2 : Below W1.heap.size W1 ((W1.alloc (.cells pW.cells.toArray 50)).alloc (.cells nd0.cells.toArray 41)) := ((Below.refl _ W1).alloc (Nat.le_refl _) _).alloc (by simp) _
  refine ⟨wpList_store_blk (vs := (nW W1.heap.size).cells) rfl rfl hZ2 (by rfl) (by rfl) row41 rfl (nd_one _) fun W2 hX hg => ?_⟩
  have HB2 := Lib.hid (below_step HB1.out (Below.grownB hal2 hg (by omega) (by simp; omega)))
  have HN := Lib.hid hX
  have HP := Lib.hid (hP2.grown hg (by simp))
  have HXX := Lib.hid (HX1.out.later (Below.grownB hal2 hg (by omega) (by simp; omega)))
  obtain ⟨b, hb⟩ : ∃ q, W1.heap.size = q := ⟨_, rfl⟩
  rw [hb] at HN HP ⊢
  clear hZ2 hP2 hal2 hX hg hlc HX1 HB1
  have HXX2 := HXX; have HN2 := HN; have HP2 := HP
  clear HXX HN HP hb
  go_wp2_with fail
  have C := known9 nd0 [] W2 none 0 0 (good0 W2) few0 (Rws.nil _ _)
  rw [ex_bad0] at C
  refine C.mono ?_
  rintro r W3 ⟨rfl, hb⟩
  have HB3 := Lib.hid (below_step HB2.out hb); have HN3 := Lib.hid (HN2.out.later hb); have HP3 := Lib.hid (HP2.out.later hb); have HXX3 := Lib.hid (HXX2.out.later hb)
  clear C hb HB2 HN2 HP2 HXX2
  go_wp2_with (refine stop_load (ty := 41) rfl ?_)
  refine ⟨wpList_load_at_w (by rfl) rfl HN3.out.at_ (by rfl) row41 ?_⟩
  go_wp2_with fail
  have C := known9 (nW b) [] W3 none 0 0 (goodW HP3.out) (fewW b) (Rws.nil _ _)
  rw [ex_bad1] at C
  refine C.mono ?_
  rintro r W4 ⟨rfl, hb⟩
  have HB4 := Lib.hid (below_step HB3.out hb); have HN4 := Lib.hid (HN3.out.later hb); have HP4 := Lib.hid (HP3.out.later hb); have HXX4 := Lib.hid (HXX3.out.later hb)
  clear C hb HB3 HN3 HP3 HXX3
  go_wp2_with (refine stop_load (ty := 41) rfl ?_)
  refine ⟨wpList_load_at_w (by rfl) rfl HN4.out.at_ (by rfl) row41 ?_⟩
  go_wp2_with (refine stop_load (ty := 29) rfl ?_)
  refine ⟨wpList_load_at_w (by rfl) rfl HXX4.out.at_.ent (by rfl) row29 ?_⟩
  have hlc := cells_6 pW.ent
  go_wp2_with fail
  rw [fold_en pW.ent]
  clear hlc
  have hal : Below W4.heap.size W4 (W4.alloc (.cells pW.ent.cells.toArray 29)) := (Below.refl _ _).alloc (Nat.le_refl _) _
  have hA : Blk (W4.alloc (.cells pW.ent.cells.toArray 29)) W4.heap.size pW.ent.cells := Blk.new' rfl
  have HB5 := Lib.hid (below_step HB4.out hal); have HN5 := Lib.hid (HN4.out.later hal); have HP5 := Lib.hid (HP4.out.later hal); have HXX5 := Lib.hid (HXX4.out.later hal)
  have HA := Lib.hid hA
  clear hal hA HB4 HN4 HP4 HXX4
  obtain ⟨g5, hg5⟩ : ∃ q, W4.heap.size = q := ⟨_, rfl⟩
  obtain ⟨W5, hW5⟩ : ∃ q, W4.alloc (.cells pW.ent.cells.toArray 29) = q := ⟨_, rfl⟩
  rw [hW5] at HB5 HN5 HP5 HXX5 HA ⊢
  rw [hg5] at HA ⊢
  clear hW5 hg5
  have C := known9 (nW b) [pW.ent] W5 (some ⟨g5, 0, none⟩) 1 1 (goodW HP5.out) (fewW b) (Rws.one HA.out)
  rw [ex_good] at C
  refine C.mono ?_
  rintro r W6 ⟨rfl, hb⟩
  have HB6 := Lib.hid (below_step HB5.out hb); have HN6 := Lib.hid (HN5.out.later hb); have HP6 := Lib.hid (HP5.out.later hb); have HXX6 := Lib.hid (HXX5.out.later hb)
  clear C hb HB5 HN5 HP5 HXX5
  clear HA
  go_wp2_with (refine stop_load (ty := 41) rfl ?_)
  refine ⟨wpList_load_at_w (by rfl) rfl HN6.out.at_ (by rfl) row41 ?_⟩
  go_wp2_with fail
  have C := all15 (nW b) W6 (goodW HP6.out) (fewW b)
  rw [ex_all] at C
  refine C.mono ?_
  rintro r W7 ⟨v, rfl, hO, hb⟩
  obtain ⟨so, sc, rfl, -⟩ := hO.rws rfl
  have HB7 := Lib.hid (below_step HB6.out hb); have HN7 := Lib.hid (HN6.out.later hb); have HP7 := Lib.hid (HP6.out.later hb); have HXX7 := Lib.hid (HXX6.out.later hb)
  clear C hb hO HB6 HN6 HP6 HXX6
  simp only [List.length_cons, List.length_nil]
  go_wp2_with (refine stop_load (ty := 41) rfl ?_)
  refine ⟨wpList_load_at_w (by rfl) rfl HN7.out.at_ (by rfl) row41 ?_⟩
  go_wp2_with fail
  have C := bad17 (nW b) [] W7 none 0 0 (goodW HP7.out) (fewW b) (Rws.nil _ _)
  rw [ex_bad] at C
  refine C.mono ?_
  rintro r W8 ⟨v, rfl, hO, hb⟩
  obtain ⟨so, sc, rfl, -⟩ := hO.rws rfl
  have HB8 := Lib.hid (below_step HB7.out hb); have HN8 := Lib.hid (HN7.out.later hb); have HP8 := Lib.hid (HP7.out.later hb); have HXX8 := Lib.hid (HXX7.out.later hb)
  clear C hb hO HB7 HN7 HP7 HXX7
  simp only [List.length_cons, List.length_nil]
  go_wp2_with (refine stop_load (ty := 41) rfl ?_)
  refine ⟨wpList_load_at_w (by rfl) rfl HN8.out.at_ (by rfl) row41 ?_⟩
  have hlc := cells_22 (nW b)
  go_wp2_with fail
  rw [fold_nd (nW b)]
  clear hlc
  have hal : Below W8.heap.size W8 (W8.alloc (.cells (nW b).cells.toArray 41)) := (Below.refl _ _).alloc (Nat.le_refl _) _
  have hA : Blk (W8.alloc (.cells (nW b).cells.toArray 41)) W8.heap.size (nW b).cells := Blk.new' rfl
  have HB9 := Lib.hid (below_step HB8.out hal); have HN9 := Lib.hid (HN8.out.later hal); have HP9 := Lib.hid (HP8.out.later hal); have HXX9 := Lib.hid (HXX8.out.later hal)
  have HA := Lib.hid hA
  clear hal hA HB8 HN8 HP8 HXX8
  obtain ⟨g9, hg9⟩ : ∃ q, W8.heap.size = q := ⟨_, rfl⟩
  obtain ⟨W9, hW9⟩ : ∃ q, W8.alloc (.cells (nW b).cells.toArray 41) = q := ⟨_, rfl⟩
  rw [hW9] at HB9 HN9 HP9 HXX9 HA ⊢
  rw [hg9] at HA ⊢
  clear hW9 hg9
  have C := apart11 [nW b] W9 (some ⟨g9, 0, none⟩) 1 1 ⟨Rws.one HA.out, fun p hp => by simp at hp; subst hp; exact goodW HP9.out⟩ (fun p hp => by simp at hp; subst hp; exact fewW b) (fun p hp q hq => by simp at hp; subst hp; simp [knownD, nW, nd0] at hq; subst hq; simp [pW]) (by simp)
  rw [ex_apart] at C
  refine C.mono ?_
  rintro r W10 ⟨rfl, hb⟩
  have HB10 := Lib.hid (below_step HB9.out hb); have HN10 := Lib.hid (HN9.out.later hb); have HP10 := Lib.hid (HP9.out.later hb); have HXX10 := Lib.hid (HXX9.out.later hb)
  clear C hb HB9 HN9 HP9 HXX9
  clear HA
  go_wp2_with (refine stop_load (ty := 41) rfl ?_)
  refine ⟨wpList_load_at_w (by rfl) rfl HN10.out.at_ (by rfl) row41 ?_⟩
  go_wp2_with fail
  have C := sess18 (nW b) [] W10 none 0 0 (goodW HP10.out) (Rws.nil _ _)
  rw [ex_sess] at C
  refine C.mono ?_
  rintro r W11 ⟨rfl, hb⟩
  have HB11 := Lib.hid (below_step HB10.out hb); have HN11 := Lib.hid (HN10.out.later hb); have HP11 := Lib.hid (HP10.out.later hb); have HXX11 := Lib.hid (HXX10.out.later hb)
  clear C hb HB10 HN10 HP10 HXX10
  go_wp2
  refine bodyPost_ret (v := .bool true) (by simp [results, Try.results6, go_sem]) rfl ⟨rfl, HB11.out⟩
end Go.Proofs.Ythdkgcmoagookaa
