/-
  Walks: Pick, the reference Pick.
-/
import Derived.Test.YtgpaekmkkjbilaaWa
namespace Go.Proofs.Ytgpaekmkkjbilaa
open Go.RowKit
set_option maxHeartbeats 400000
set_option linter.unusedVariables false
set_option linter.unusedSimpArgs false

theorem pick_t (x y : UInt8) : bits .or .u8 (bits .and .u8 (x.toNat : Int) 255) (bits .andNot .u8 (y.toNat : Int) 255) = (x.toNat : Int) := by
  have h1 : bits .and .u8 (x.toNat : Int) 255 = ((x.toNat &&& 255 : Nat) : Int) := u8_and_nat _ 255 x.toNat_lt (by omega)
  have h2 : bits .andNot .u8 (y.toNat : Int) 255 = ((y.toNat &&& (255 - 255) : Nat) : Int) := u8_andNot_nat _ 255 y.toNat_lt (by omega)
  have hx : x.toNat < 256 := x.toNat_lt
  rw [h1, h2, nat_mask8, Nat.mod_eq_of_lt hx, u8_or_nat _ _ hx (by simp)]
  simp

theorem pick_f (x y : UInt8) : bits .or .u8 (bits .and .u8 (x.toNat : Int) 0) (bits .andNot .u8 (y.toNat : Int) 0) = (y.toNat : Int) := by
  have h1 : bits .and .u8 (x.toNat : Int) 0 = ((x.toNat &&& 0 : Nat) : Int) := u8_and_nat _ 0 x.toNat_lt (by omega)
  have h2 : bits .andNot .u8 (y.toNat : Int) 0 = ((y.toNat &&& (255 - 0) : Nat) : Int) := u8_andNot_nat _ 0 y.toNat_lt (by omega)
  have hy : y.toNat < 256 := y.toNat_lt
  rw [h1, h2, nat_mask8, Nat.mod_eq_of_lt hy, u8_or_nat _ _ (by simp) hy]
  simp

def pickL (first : Bool) (a b : List UInt8) : List UInt8 := if a.length = b.length then (if first then a else b) else []
def pickV (first : Bool) (a b : List UInt8) (i : Nat) : Value := By (if first then a.getD i 0 else b.getD i 0)

theorem pickL_vals (first : Bool) (a b : List UInt8) (h : a.length = b.length) : (pickL first a b).map By = (List.range a.length).map (pickV first a b) := by
  apply List.ext_getElem
  · cases first <;> simp [pickL, h]
  · intro i h1 h2
    simp at h2
    have h4 : i < b.length := by omega
    cases first <;> simp [pickL, h, pickV, List.getD, h4]

theorem pickL_length (first : Bool) (a b : List UInt8) (h : a.length = b.length) : (pickL first a b).length = a.length := by
  cases first <;> simp [pickL, h]

theorem pick_any (first : Bool) (oa ob : Option Addr) (a b : List UInt8) (c d : Nat) (w : World) (ha : Cells w oa (a.map By)) (hb : Cells w ob (b.map By)) (hla : a.length ≤ 140737488351232) (hlb : b.length ≤ 140737488351232) :
    Calls Try.prog 11 #[.bool first, .slice oa a.length c, .slice ob b.length d] w (RowOut w ((pickL first a b).map By)) := by
  by_cases hne : a.length = b.length
  · have hne1 : ((a.length : Int) != (b.length : Int)) = false := by simp [hne]
    have HN := Lib.hid hne; clear hne
    obtain ⟨i5, hi, hz0, hz1, hz2⟩ := info_parts Try.info5
    go_enter Try.func11, Try.ntmps11
    go_wp2_with fail
    refine (mask_any _ _).mono ?_
    rintro e w1 ⟨rfl, rfl⟩
    have HM : Hid (∀ x y : UInt8, bits .or .u8 (bits .and .u8 (x.toNat : Int) (if first then 255 else 0)) (bits .andNot .u8 (y.toNat : Int) (if first then 255 else 0)) = (((if first then x else y).toNat : Nat) : Int)) := by
      intro x y; cases first
      · exact pick_f x y
      · exact pick_t x y
    generalize hm : (if first = true then (255 : Int) else 0) = m at *
    clear hm
    go_wp2_with (at_make; refine wpList_make_full _ rfl (.tmp 18) (.tmp 18) 22 rfl w1.heap.size 5 i5 (.int .u8 0) 1 Try.underlying22 hi hz0 hz1 .i64 .i64 _ _ a.length rfl rfl rfl rfl ?c1 ?c2 ?c3 ?_)
    case c1 => rw [hz2]; omega
    case c2 => unfold maxLen; omega
    case c3 => exact Nat.le_refl _
    intro w2 hown hgrow
    go_wp2
    go_loopw [9, 22] (fun _ i wr => ∃ k : Nat, k ≤ a.length ∧ i = .int .i64 k ∧ wr.ownsRow w1.heap.size 5 1 (.slice (some ⟨w1.heap.size, 0, none⟩) a.length a.length) a.length (fillTo (pickV first a b) (.int .u8 0) k a.length) ∧ Below w1.heap.size w1 wr)
      (fun _ i _ => a.length - (intOf i).toNat)
    case atStart =>
      refine ⟨0, Nat.zero_le _, rfl, ?_, (Below.refl _ _).grown hgrow (Nat.le_refl _) (by simp)⟩
      rw [fillTo_zero]; simpa [toList_madeCells_one] using hown
    case round =>
      obtain ⟨k, hk, rfl, hown', hbel⟩ := hrel
      by_cases hlt : k < a.length
      · have hltb : k < b.length := by have := HN.out; omega
        obtain ⟨b1, o1, rfl, hb1, hc1⟩ := ha.bytes hlt
        obtain ⟨b2, o2, rfl, hb2, hc2⟩ := hb.bytes hltb
        have hc1' := (hbel.cell (p := ⟨b1, o1 + k, none⟩) hb1).trans hc1
        have hc2' := (hbel.cell (p := ⟨b2, o2 + k, none⟩) hb2).trans hc2
        have hc3 := (hown'.cellAt k (by omega)).trans (fillTo_get _ _ _ _ _ hlt)
        have hfz := hown'.frozenAt k
        have hst := hown'.stored k (pickV first a b k)
        rw [fillTo_set] at hst
        have hbel' := hbel.setCell (p := ⟨w1.heap.size, k, none⟩) (Nat.le_refl _) (pickV first a b k)
        have HBEL := Lib.hid hbel'
        have HST := Lib.hid hst; clear hst hown' hown hbel hbel'
        have hn1 : w1.heap.size ≠ b1 := by omega
        have hn2 : w1.heap.size ≠ b2 := by omega
        have HV : Hid (pickV first a b k = Value.int .u8 (bits .or .u8 (bits .and .u8 (a[k].toNat : Int) m) (bits .andNot .u8 (b[k].toNat : Int) m))) := by
          show _ = _
          rw [HM.out]; cases first <;> simp [pickV, By, List.getD, hlt, hltb]
        clear hc1 hc2
        go_wp2
        go_region
        go_wp2
        go_roundw
        case rel =>
          rw [← HV.out]
          exact ⟨k + 1, by omega, by go_num, HST.out.1, HBEL.out.drew⟩
        case measure => simp [intOf]; omega
      · have hkn : k = a.length := by omega
        subst hkn
        go_wp2
        go_ret
        rw [fillTo_full, ← pickL_vals first a b HN.out] at hown'
        obtain ⟨oa', c', hv, hn, hcs⟩ := Cells.of_owns hown'
        exact ⟨oa', c', congrArg Ending.returned hv, hcs, hbel⟩
  · have hne1 : ((a.length : Int) != (b.length : Int)) = true := by rw [bne_iff_ne]; omega
    have HN := Lib.hid hne; clear hne
    go_enter Try.func11, Try.ntmps11
    go_wp2
    go_ret
    have he : (pickL first a b).map By = [] := by simp [pickL, HN.out]
    rw [he]
    exact ⟨none, 0, rfl, Cells.nil _ _, Below.refl _ _⟩

theorem refPick_any (first : Bool) (oa ob : Option Addr) (a b : List UInt8) (c d : Nat) (w : World) (ha : Cells w oa (a.map By)) (hb : Cells w ob (b.map By)) (hla : a.length ≤ 140737488351232) (hlb : b.length ≤ 140737488351232) :
    Calls Try.prog 12 #[.bool first, .slice oa a.length c, .slice ob b.length d] w (RowOut w ((pickL first a b).map By)) := by
  by_cases hne : a.length = b.length
  · have hne1 : ((a.length : Int) != (b.length : Int)) = false := by simp [hne]
    have HN := Lib.hid hne; clear hne
    obtain ⟨i5, hi, hz0, hz1, hz2⟩ := info_parts Try.info5
    have hown := World.ownsRow_lit (base := w.heap.size) (e := 5) (size := 1) w #[] 0 (Nat.le_refl _) (by simp [maxLen]) rfl
    cases first with
    | true =>
      go_enter Try.func12, Try.ntmps12
      go_wp2_with (at_builtin; refine wpList_append_cells rfl (.tmp 13) (.tmp 14) 22 rfl w.heap.size 5 i5 (.int .u8 0) 1 Try.underlying22 hi hz0 hz1 hz2 rfl (.slice (some ⟨w.heap.size, 0, none⟩) 0 0) 0 [] rfl hown oa c (a.map By) ?c0 ?c1 (By_oneCell a) ?c2 ?c3 ?c4 ?_)
      case c1 => exact ha.below ((Below.refl w.heap.size w).alloc (Nat.le_refl _) _) (Nat.le_refl _)
      case c2 => (try simp only [maxLen, List.length_map]); omega
      case c3 => (try simp only [List.length_map]); omega
      intro v' w' hown' hgrow
      go_wp2
      go_ret
      have hp : pickL true a b = a := by simp [pickL, HN.out]
      rw [hp]
      obtain ⟨oa', c', hv, hn, hcs⟩ := Cells.of_owns hown'
      refine ⟨oa', c', congrArg Ending.returned (by simpa using hv), by simpa using hcs, ?_⟩
      exact ((Below.refl w.heap.size w).alloc (Nat.le_refl _) _).grown hgrow (by simp) (by simp [Value.ownBlock])
    | false =>
      go_enter Try.func12, Try.ntmps12
      go_wp2_with (at_builtin; refine wpList_append_cells rfl (.tmp 16) (.tmp 17) 22 rfl w.heap.size 5 i5 (.int .u8 0) 1 Try.underlying22 hi hz0 hz1 hz2 rfl (.slice (some ⟨w.heap.size, 0, none⟩) 0 0) 0 [] rfl hown ob d (b.map By) ?d0 ?d1 (By_oneCell b) ?d2 ?d3 ?d4 ?_)
      case d1 => exact hb.below ((Below.refl w.heap.size w).alloc (Nat.le_refl _) _) (Nat.le_refl _)
      case d2 => (try simp only [maxLen, List.length_map]); omega
      case d3 => (try simp only [List.length_map]); omega
      intro v' w' hown' hgrow
      go_wp2
      go_ret
      have hp : pickL false a b = b := by simp [pickL, HN.out]
      rw [hp]
      obtain ⟨oa', c', hv, hn, hcs⟩ := Cells.of_owns hown'
      refine ⟨oa', c', congrArg Ending.returned (by simpa using hv), by simpa using hcs, ?_⟩
      exact ((Below.refl w.heap.size w).alloc (Nat.le_refl _) _).grown hgrow (by simp) (by simp [Value.ownBlock])
  · have hne1 : ((a.length : Int) != (b.length : Int)) = true := by rw [bne_iff_ne]; omega
    have HN := Lib.hid hne; clear hne
    go_enter Try.func12, Try.ntmps12
    go_wp2
    go_ret
    have he : (pickL first a b).map By = [] := by simp [pickL, HN.out]
    rw [he]
    exact ⟨none, 0, rfl, Cells.nil _ _, Below.refl _ _⟩

end Go.Proofs.Ytgpaekmkkjbilaa
