/-
  The walk of the law EqualOne: it returns true and leaves what was there as it was.
-/
import Derived.Test.YtgpaekmkkjbilaaWd
namespace Go.Proofs.Ytgpaekmkkjbilaa
open Go.RowKit
set_option maxHeartbeats 1000000
set_option linter.unusedVariables false
set_option linter.unusedSimpArgs false

theorem owns_form {w : World} {base e : Nat} {v : Value} {n : Nat} {xs : List Value} (h : w.ownsRow base e 1 v n xs) (hn : 0 < n) :
    ∃ g cap, v = .slice (some ⟨g, 0, none⟩) n cap ∧ base ≤ g := by
  rcases h.2 with ⟨rfl, rfl⟩ | ⟨g, cap, cur, rfl, hb, _⟩
  · omega
  · exact ⟨g, cap, rfl, hb⟩

theorem one_plain (a : List UInt8) (i : Nat) (hi : i < a.length) (y : UInt8) : (decide (a = a.set i (a[i] ^^^ y)) == (((y.toNat : Nat) : Int) == 0)) = true := by
  rw [beq_iff_eq, Bool.eq_iff_iff, decide_eq_true_iff, beq_iff_eq]
  constructor
  · intro h
    have h1 : a[i] = (a.set i (a[i] ^^^ y))[i]'(by simpa using hi) := by
      have h2 : a[i]? = (a.set i (a[i] ^^^ y))[i]? := congrArg (·[i]?) h
      rw [List.getElem?_eq_getElem hi, List.getElem?_eq_getElem (by simpa using hi)] at h2
      exact Option.some.inj h2
    rw [List.getElem_set_self] at h1
    have h3 : y = 0 := by
      have h4 : a[i] ^^^ a[i] = a[i] ^^^ (a[i] ^^^ y) := congrArg (a[i] ^^^ ·) h1
      rw [← UInt8.xor_assoc] at h4
      simpa using h4.symm
    rw [h3]; rfl
  · intro h
    have h3 : y = 0 := UInt8.toNat_inj.1 (by simpa using h)
    subst h3
    simp

theorem one_small (oa : Option Addr) (n : Nat) (a : List UInt8) (c t : Nat) (y : UInt8) (w : World) (ha : Reads w oa n a) (hla : n ≤ 3000) (hpos : 0 < n) (ht : t < 65536) :
    Calls Try.prog 5 #[.slice oa n c, .int .u16 (t : Int), .int .u8 (y.toNat : Int)] w fun e w' => e = .returned (.bool true) ∧ Below w.heap.size w w' := by
  have HA : Hid (∀ W, Below w.heap.size w W → Reads W oa n a) := fun W h => ha.below h
  obtain ⟨hlen, -⟩ := ha
  have HL := Lib.hid hlen; clear hlen
  have hla1 : n ≤ 140737488351232 := by omega
  have hla2 : ¬ (3000 : Int) < (n : Int) := by omega
  have hne : ((n : Int) == 0) = false := by rw [beq_eq_false_iff_ne]; omega
  have hy : y.toNat < 256 := y.toNat_lt
  obtain ⟨i5, hi, hz0, hz1, hz2⟩ := info_parts Try.info5
  go_enter Try.func5, Try.ntmps5
  go_wp2_with fail
  refine (works_any _).mono ?_
  rintro e w1 ⟨rfl, h1⟩
  have hown := World.ownsRow_lit (base := w1.heap.size) (e := 5) (size := 1) w1 #[] 0 (Nat.le_refl _) (by simp [maxLen]) rfl
  have hr1 := HA.out _ (h1.alloc h1.size (.cells #[] 5))
  have hc1 : Cells (w1.alloc (.cells #[] 5)) oa (a.map By) := hr1.cells
  have HN : Hid ((a.map By).length = n) := by show _ = _; rw [List.length_map]; exact HL.out.symm
  have HC := Lib.hid hc1; clear hc1 hr1
  go_wp2_with (at_builtin; refine wpList_append_cells rfl (.tmp 18) (.tmp 19) 22 rfl w1.heap.size 5 i5 (.int .u8 0) 1 Try.underlying22 hi hz0 hz1 hz2 rfl (.slice (some ⟨w1.heap.size, 0, none⟩) 0 0) 0 [] rfl hown oa c (a.map By) (by rw [HN.out]; rfl) HC.out (By_oneCell a) (by rw [HN.out]; simp only [maxLen]; omega) (by rw [HN.out]; omega) (by simp) ?_)
  intro v' w2 hown2 hgrow
  rw [← HL.out] at hown2
  have h2 : Below w.heap.size w w2 := (h1.alloc h1.size _).grown hgrow (by simp; have := h1.size; omega) (by simp [Value.ownBlock]; exact h1.size)
  obtain ⟨g, cap, rfl, hg⟩ := owns_form hown2 hpos
  clear hown hgrow
  have hlt : t % n < n := Nat.mod_lt _ hpos
  have hi1 : (0 : Int) ≤ (t : Int) % (n : Int) := by omega
  have hi2 : (t : Int) % (n : Int) < (n : Int) := by omega
  have hia : t % n < a.length := by rw [← HL.out]; exact hlt
  have hcell : w2.cell? ⟨g, t % n, none⟩ = some (.int .u8 (a[t % n].toNat : Int)) := by
    rw [hown2.cellAt _ (by omega)]; simp [By, hia]
  have hfz := hown2.frozenAt (t % n)
  have hst := hown2.stored (t % n) (By (a[t % n] ^^^ y))
  have HST : Hid (Reads (w2.setCell ⟨g, t % n, none⟩ (By (a[t % n] ^^^ y))) (some ⟨g, 0, none⟩) n (a.set (t % n) (a[t % n] ^^^ y))) := by
    obtain ⟨oa', c', hv, hn, hcs⟩ := Cells.of_owns hst.1
    simp at hv
    obtain ⟨rfl, -, -⟩ := hv
    refine ⟨by simpa using HL.out, ?_⟩
    rw [List.map_set]; exact hcs
  have HB3 : Hid (Below w.heap.size w (w2.setCell ⟨g, t % n, none⟩ (By (a[t % n] ^^^ y)))) := h2.setCell (by have := h1.size; simp; omega) _
  have HP := Lib.hid (one_plain a (t % n) hia y)
  have HE : Hid (Value.int .u8 (bits .xor .u8 (a[t % n].toNat : Int) (y.toNat : Int)) = By (a[t % n] ^^^ y)) := by show _ = _; rw [bits_xor_u8]; rfl
  clear hown2 hst h2
  generalize a[t % n] ^^^ y = r at *
  generalize a[t % n].toNat = z at *
  go_wp2_with fail
  rw [HE.out]
  refine (bytes_r _ _ _ _ _ _ _ _ _ (HA.out _ HB3.out) HST.out hla1 hla1).mono ?_
  rintro e w4 ⟨rfl, hb4⟩
  have HB4 := Lib.hid (below_step HB3.out hb4); clear hb4
  have hp := HP.out
  go_wp2
  go_ret
  exact ⟨rfl, HB4.out⟩

theorem one_short (oa : Option Addr) (n : Nat) (c t y : Nat) (w : World) (hl : 3000 < n ∨ n = 0) :
    Calls Try.prog 5 #[.slice oa n c, .int .u16 (t : Int), .int .u8 (y : Int)] w fun e w' => e = .returned (.bool true) ∧ Below w.heap.size w w' := by
  rcases hl with h | h
  · have h2 : (3000 : Int) < (n : Int) := by omega
    go_enter Try.func5, Try.ntmps5
    go_wp2_with (go_at_call 6; refine (works_any _).mono ?_; rintro e w1 ⟨rfl, hb1⟩)
    go_ret
    exact ⟨rfl, hb1⟩
  · subst h
    go_enter Try.func5, Try.ntmps5
    go_wp2_with (go_at_call 6; refine (works_any _).mono ?_; rintro e w1 ⟨rfl, hb1⟩)
    go_ret
    exact ⟨rfl, hb1⟩

theorem one_any (oa : Option Addr) (n : Nat) (a : List UInt8) (c t : Nat) (y : UInt8) (w : World) (ha : Reads w oa n a) (ht : t < 65536) :
    Calls Try.prog 5 #[.slice oa n c, .int .u16 (t : Int), .int .u8 (y.toNat : Int)] w fun e w' => e = .returned (.bool true) ∧ Below w.heap.size w w' := by
  by_cases h : 3000 < n ∨ n = 0
  · exact one_short oa n c t y.toNat w h
  · exact one_small oa n a c t y w ha (by omega) (by omega) ht
end Go.Proofs.Ytgpaekmkkjbilaa
