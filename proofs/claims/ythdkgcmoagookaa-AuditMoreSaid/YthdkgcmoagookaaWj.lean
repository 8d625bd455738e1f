/-
  Lists of peers, one behind the other (the library's).
-/
import Derived.Test.YthdkgcmoagookaaWi
import Derived.Lib.AppendZerosOnto
namespace Go.Proofs.Ythdkgcmoagookaa
open Go.RowKit Go.Proofs.Ythdkgcmoagookaa.Plan Go.Proofs.Ythdkgcmoagookaa.Eager
set_option maxHeartbeats 4000000
set_option maxRecDepth 20000
set_option linter.unusedVariables false
set_option linter.unusedSimpArgs false

theorem grow41 (m : Nat) (hm : m ≤ 1000) (w : World) : Calls Try.prog 41 #[.slice none 0 0, .int .i64 (m : Int)] w fun r w' => ∃ v, r = .returned v ∧ Own w' w.heap.size 50 8 v 0 [] ∧ Below w.heap.size w w' := by
  cases m with
  | zero =>
    go_enter Try.func41, Try.ntmps41
    go_wp2
    refine bodyPost_ret (v := .slice none 0 0) (by simp [results, Try.results41, go_sem]) rfl ⟨_, rfl, Own.nil _ _ _ _, Below.refl _ _⟩
  | succ k =>
    obtain ⟨i0, z, hi0, hz0, hs0, hb0, hzc⟩ := el32.info
    have hold : (Builtin.firstCells i0.size 0 (.slice none 0 0)).run Try.prog w.drew = .ok ([] : List Value).toArray w.drew := run_firstCells_none w.drew i0.size 0 0 0
    have hrz : ∀ ty, (Builtin.append_ #[32, 3] ty #[.slice none 0 0, .int .i64 ((k + 1 : Nat) : Int)]).run Try.prog w =
        .ok (.slice (some ⟨w.heap.size, 0, none⟩) (0 + (k + 1)) (grownCap w (0 + (k + 1)) 0 50)) (w.drew.alloc (.cells (([] : List Value).toArray ++ Builtin.zeroCells z.cells (k + 1) ++ Builtin.zeroCells z.cells (grownCap w (0 + (k + 1)) 0 50 - (0 + (k + 1)))) 50)) := fun ty =>
      Lib.run_append_grow_zeros w 32 3 ty 50 i0 z .i64 .i64 Try.underlying32 Try.underlying3 hi0 hz0 none 0 0 [] hold (k + 1) (by omega) (by omega) (by omega) (by omega) (by rw [hb0]; omega)
        (growslice_fits (need := 0 + (k + 1)) (old := 0) (bytes := i0.bytes) (by omega) (by rw [hb0]; omega))
    have hGn : 0 + (k + 1) ≤ grownCap w (0 + (k + 1)) 0 50 := grownCap_ge w _ _ _
    have hG63 : grownCap w (0 + (k + 1)) 0 50 ≤ maxLen := grownCap_le_maxLen w (0 + (k + 1)) 0 50 (by simp [maxLen]; omega)
    obtain ⟨G, hG⟩ : ∃ G, G = grownCap w (0 + (k + 1)) 0 50 := ⟨_, rfl⟩
    rw [← hG] at hrz hGn hG63
    clear hold hG
    have h1 : (0 : Int) < ((k + 1 : Nat) : Int) := by omega
    have h2 : ¬ ((k + 1 : Nat) : Int) < 0 := by omega
    have h3 : IntKind.i64.wrap (((k + 1 : Nat) : Int) - 0) = ((k + 1 : Nat) : Int) := by rw [IntKind.wrap_i64]; omega
    have h5 : IntKind.i64.wrap ((k + 1 : Nat) : Int) = ((k + 1 : Nat) : Int) := by rw [IntKind.wrap_i64]; omega
    obtain ⟨K, hK⟩ : ∃ K : Int, ((k + 1 : Nat) : Int) = K := ⟨_, rfl⟩
    rw [hK] at hrz h1 h2 h3 h5 ⊢
    have hG0 : (0 : Int) ≤ (G : Int) := by omega
    have HG := Lib.hid (show k + 1 ≤ G by omega); have HG63 := Lib.hid hG63
    obtain ⟨Z, hZ⟩ : ∃ Z, (([] : List Value).toArray ++ Builtin.zeroCells z.cells (k + 1) ++ Builtin.zeroCells z.cells (G - (0 + (k + 1)))) = Z := ⟨_, rfl⟩
    have hZs : Z.size = G * 8 := by
      rw [← hZ]
      simp only [Array.size_append, List.size_toArray, List.length_nil, size_zeroCells, hzc]
      omega
    rw [hZ] at hrz
    have HOW : Hid (Own (w.drew.alloc (.cells Z 50)) w.heap.size 50 8 (.slice (some ⟨w.heap.size, 0, none⟩) 0 G) 0 []) := by
      refine ⟨rfl, .inr ⟨w.heap.size, G, Z, rfl, Nat.le_refl _, ?_, Nat.zero_le _, hG63, hZs, by simp⟩⟩
      have h : w.heap.size = w.drew.heap.size := rfl
      rw [heap_alloc_at, if_pos h]
    have HBW : Hid (Below w.heap.size w (w.drew.alloc (.cells Z 50))) := (Below.refl _ w).drew.alloc (Nat.le_refl _) _
    clear hZ hZs
    clear hGn hG63 hi0 hz0 hs0 hb0 hzc hK
    go_enter Try.func41, Try.ntmps41
    go_wp2_with (at_builtin; refine Lib.wpList_append_run _ rfl _ _ _ _ rfl _ _ rfl rfl _ _ (hrz _) ?_)
    all_goals exact bodyPost_ret (v := .slice (some ⟨w.heap.size, 0, none⟩) 0 G) (by simp [results, Try.results41, go_sem]) rfl ⟨_, rfl, HOW.out, HBW.out⟩

def totD (a t : Nat) : Nat → Nat
  | 0 => 0
  | 1 => a
  | _ => t
def catD (A B : List Pe) : Nat → List Pe
  | 0 => []
  | 1 => A
  | _ => A ++ B
theorem concat34 (A B : List Pe) (w : World) (g : Nat) (ao bo : Option Addr) (ac bc : Nat) (hg : Blk w g [.slice ao A.length ac, .slice bo B.length bc]) (hA : RPe w ao A.length ac A) (hB : RPe w bo B.length bc B) (ha : A.length ≤ 100) (hb : B.length ≤ 100) :
    Calls Try.prog 34 #[.slice (some ⟨g, 0, none⟩) 2 2] w fun r w' => Peers w (A ++ B) r w' := by
  have HG := Lib.hid hg; have HA := Lib.hid hA; have HB := Lib.hid hB; have HLA := Lib.hid ha; have HLB := Lib.hid hb
  have x0 : w.cell? ⟨g, 0, none⟩ = some (.slice ao A.length ac) := hg.at' 0 (by simp)
  have x1 : w.cell? ⟨g, 1, none⟩ = some (.slice bo B.length bc) := hg.at' 1 (by simp)
  have xl := hg.lt
  obtain ⟨a, hAl⟩ : ∃ a, A.length = a := ⟨_, rfl⟩
  obtain ⟨b, hBl⟩ : ∃ a, B.length = a := ⟨_, rfl⟩
  rw [hAl] at x0 HLA; rw [hBl] at x1 HLB
  have r1 : wrap64 (a : Int) = (a : Int) := by have := HLA.out; unfold wrap64; omega
  obtain ⟨t, ht⟩ : ∃ t, a + b = t := ⟨_, rfl⟩
  have r2 : IntKind.i64.wrap ((a : Int) + (b : Int)) = (t : Int) := by have := HLA.out; have := HLB.out; rw [IntKind.wrap_i64]; omega
  have r3 : IntKind.i64.wrap (0 + 1) = 1 := by rw [IntKind.wrap_i64]; omega
  have r4 : IntKind.i64.wrap (1 + 1) = 2 := by rw [IntKind.wrap_i64]; omega
  have n1 : ¬ (a : Int) < 0 := by omega
  have n2 : ¬ (t : Int) < 0 := by omega
  have HAl := Lib.hid hAl; have HBl := Lib.hid hBl; have HT := Lib.hid ht
  clear hg hA hB ha hb hAl hBl ht
  go_enter Try.func34, Try.ntmps34
  go_wp2
  go_loopw [3, 11] (fun s i wr => ∃ k : Nat, k ≤ 2 ∧ i = .int .i64 k ∧ s = .int .i64 (totD a t k : Nat) ∧ wr = w) (fun _ i _ => 2 - (intOf i).toNat)
  case atStart => exact ⟨0, by omega, rfl, rfl, rfl⟩
  case round =>
    obtain ⟨k, hk, rfl, rfl, rfl⟩ := hrel
    obtain ⟨w, rfl⟩ : ∃ q, q = wr := ⟨_, rfl⟩
    rcases (by omega : k = 0 ∨ k = 1 ∨ k = 2) with rfl | rfl | rfl
    · simp only [totD]
      go_wp2_with fail
      go_roundw
      case measure => (simp [intOf]) <;> omega
      case rel => exact ⟨1, by omega, rfl, by simp [totD, r1], trivial⟩
    · simp only [totD]
      go_wp2_with fail
      refine ⟨?_, ?measureB⟩
      rotate_left
      · (simp [intOf]) <;> omega
      first | exact ⟨2, by omega, rfl, rfl, trivial⟩ | exact ⟨2, by omega, rfl, rfl, rfl⟩
    simp only [totD]
    clear x0 x1 xl
    go_wp2_with fail
    refine (grow41 t (by have h1 := HLA.out; have h2 := HLB.out; have h3 := HT.out; omega) w).mono ?_
    rintro r w1 ⟨v0, rfl, hO, hb⟩
    have HO : Hid (Own w1 w.heap.size 50 8 v0 ([] : List Pe).length (([] : List Pe).flatMap Pe.cells)) := hO
    have HBB := Lib.hid hb
    clear hO hb r1 r2 n1 n2
    go_wp2
    go_loopw [6, 27] (fun v i wr => ∃ k : Nat, k ≤ 2 ∧ i = .int .i64 k ∧ Hid (Own wr w.heap.size 50 8 v (catD A B k).length ((catD A B k).flatMap Pe.cells)) ∧ Hid (Below w.heap.size w wr)) (fun _ i _ => 2 - (intOf i).toNat)
    case atStart => exact ⟨0, by omega, rfl, HO, HBB⟩
    clear HO HBB
    obtain ⟨k, hk, rfl, hO, hbel⟩ := hrel
    rcases (by omega : k = 0 ∨ k = 1 ∨ k = 2) with rfl | rfl | rfl
    · have hB := hbel.out
      have y0 : wr.cell? ⟨g, 0, none⟩ = some (.slice ao A.length ac) := (hB.cell (p := ⟨g, 0, none⟩) HG.out.lt).trans (HG.out.at' 0 (by simp))
      have yl := Nat.lt_of_lt_of_le HG.out.lt hB.size
      have HC := Lib.hid (HA.out.rows.cells.below hB (Nat.le_refl _))
      have HO := hO
      clear hB hO
      go_wp2_with (refine stop_append rfl ?_)
      have h1 := HLA.out; have h2 := HLB.out; have h3 := HAl.out; have h4 := HBl.out
      refine ⟨wpList_app el32 rfl rfl (by rfl) HO.out (by rfl) (m := A.length) (by rw [pe_len]) HC.out (pe_oneCells _) (by simp [maxLen, catD]; omega) (by simp [catD]; omega) hbel.out.size ?_⟩
      intro v6 W6 hO6 hg6
      have hb6 := HO.out.below hg6 hbel.out (Nat.le_refl _) hbel.out.size
      have HO6 := Lib.hid hO6; have HB6 := Lib.hid hb6
      clear hO6 hg6 hb6 h1 h2 h3 h4 HO HC y0 yl hbel
      go_wp2_with fail
      refine ⟨?_, ?measureC⟩
      rotate_left
      · (simp [intOf]) <;> omega
      have hfin : ∃ k_1 : Nat, k_1 ≤ 2 ∧ Value.int IntKind.i64 1 = Value.int IntKind.i64 (k_1 : Int) ∧ Hid (Own W6 w.heap.size 50 8 v6 (catD A B k_1).length ((catD A B k_1).flatMap Pe.cells)) ∧ Hid (Below w.heap.size w W6) := ⟨1, by omega, rfl, Lib.hid (by simpa [catD, List.flatMap_append] using HO6.out), HB6⟩
      first | exact hfin | ((repeat apply Exists.intro); exact ⟨hfin, rfl⟩)
    · have hB := hbel.out
      have y0 : wr.cell? ⟨g, 1, none⟩ = some (.slice bo B.length bc) := (hB.cell (p := ⟨g, 1, none⟩) HG.out.lt).trans (HG.out.at' 1 (by simp))
      have yl := Nat.lt_of_lt_of_le HG.out.lt hB.size
      have HC := Lib.hid (HB.out.rows.cells.below hB (Nat.le_refl _))
      have HO := hO
      clear hB hO
      go_wp2_with (refine stop_append rfl ?_)
      have h1 := HLA.out; have h2 := HLB.out; have h3 := HAl.out; have h4 := HBl.out
      refine ⟨wpList_app el32 rfl rfl (by rfl) HO.out (by rfl) (m := B.length) (by rw [pe_len]) HC.out (pe_oneCells _) (by simp [maxLen, catD]; omega) (by simp [catD]; omega) hbel.out.size ?_⟩
      intro v6 W6 hO6 hg6
      have hb6 := HO.out.below hg6 hbel.out (Nat.le_refl _) hbel.out.size
      have HO6 := Lib.hid hO6; have HB6 := Lib.hid hb6
      clear hO6 hg6 hb6 h1 h2 h3 h4 HO HC y0 yl hbel
      go_wp2_with fail
      refine ⟨?_, ?measureD⟩
      rotate_left
      · (simp [intOf]) <;> omega
      have hfin : ∃ k_1 : Nat, k_1 ≤ 2 ∧ Value.int IntKind.i64 2 = Value.int IntKind.i64 (k_1 : Int) ∧ Hid (Own W6 w.heap.size 50 8 v6 (catD A B k_1).length ((catD A B k_1).flatMap Pe.cells)) ∧ Hid (Below w.heap.size w W6) := ⟨2, by omega, rfl, Lib.hid (by simpa [catD, List.flatMap_append] using HO6.out), HB6⟩
      first | exact hfin | ((repeat apply Exists.intro); exact ⟨hfin, rfl⟩)
    go_wp2
    refine bodyPost_ret (v := u6) (by simp [results, Try.results34, go_sem]) rfl ⟨_, rfl, hO.out, hbel.out⟩
end Go.Proofs.Ythdkgcmoagookaa
