/-
  Walks: bytes held against one another.
-/
import Derived.Test.YtlheepcojeaeaaaWi
namespace Go.Proofs.Ytlheepcojeaeaaa
open Go.RowKit
set_option maxHeartbeats 400000
set_option linter.unusedVariables false
set_option linter.unusedSimpArgs false

theorem Try.info5 : (Try.prog.info? 5).map (fun i => (i.zero, i.size, i.bytes)) = some (some (.int .u8 0), 1, 1) := by kernel_rfl
def orL (l : List UInt8) : UInt8 := l.foldl (· ||| ·) 0

theorem orL_snoc (l : List UInt8) (k : Nat) (h : k < l.length) : orL (l.take (k + 1)) = orL (l.take k) ||| l[k] := by
  rw [List.take_succ_eq_append_getElem h]; unfold orL; rw [List.foldl_append]; rfl

theorem gather_any (oa : Option Addr) (l : List UInt8) (c : Nat) (w : World) (ha : Cells w oa (l.map By)) (hl : l.length ≤ 140737488351232) :
    Calls Try.prog 30 #[.slice oa l.length c] w fun e w' => e = .returned (By (orL l)) ∧ w' = w := by
  go_enter Try.func30, Try.ntmps30
  go_wp2
  go_loop [3, 8] (fun s i => ∃ k : Nat, k ≤ l.length ∧ i = .int .i64 k ∧ s = .int .u8 ((orL (l.take k)).toNat : Int)) (fun _ i => l.length - (intOf i).toNat)
  case atStart => exact ⟨0, by omega, rfl, rfl⟩
  case round =>
    obtain ⟨k, hk, rfl, rfl⟩ := hrel
    by_cases hlt : k < l.length
    · obtain ⟨b, o, rfl, hb, hc⟩ := ha.bytes hlt
      go_wp2
      go_round
      case rel => exact ⟨k + 1, by omega, by go_num, by rw [bits_or_u8, orL_snoc _ _ hlt]⟩
      case measure => simp [intOf]; omega
    · go_wp2
      go_ret
      have hkn : k = l.length := by omega
      subst hkn
      exact ⟨by simp [By], rfl⟩

theorem orL_zero (l : List UInt8) : (orL l = 0) ↔ l.all (· == 0) = true := by
  have aux : ∀ (l : List UInt8) (x : UInt8), l.foldl (· ||| ·) x = 0 ↔ x = 0 ∧ l.all (· == 0) = true := by
    intro l
    induction l with
    | nil => intro x; simp
    | cons y l ih =>
      intro x
      rw [List.foldl_cons, ih, List.all_cons]
      have : x ||| y = 0 ↔ x = 0 ∧ y = 0 := by
        constructor
        · intro h
          have h1 : (x ||| y).toNat = 0 := by rw [h]; rfl
          rw [UInt8.toNat_or, Nat.or_eq_zero_iff] at h1
          exact ⟨UInt8.toNat_inj.1 h1.1, UInt8.toNat_inj.1 h1.2⟩
        · rintro ⟨rfl, rfl⟩; rfl
      rw [this]; simp [and_assoc]
  simpa [orL] using aux l 0

def zeroL (l : List UInt8) : Bool := l.all (· == 0)

theorem zero_any (oa : Option Addr) (l : List UInt8) (c : Nat) (w : World) (ha : Cells w oa (l.map By)) (hl : l.length ≤ 140737488351232) :
    Calls Try.prog 28 #[.slice oa l.length c] w fun e w' => e = .returned (.bool (zeroL l)) ∧ w' = w := by
  go_enter Try.func28, Try.ntmps28
  go_wp2_with (go_at_call 30; refine (gather_any _ _ _ _ ha hl).mono ?_; rintro e w' ⟨rfl, rfl⟩; unfold By)
  go_ret
  refine ⟨congrArg (fun x => Ending.returned (.bool x)) ?_, rfl⟩
  rw [Bool.eq_iff_iff]
  simp only [beq_iff_eq, zeroL, ← orL_zero]
  constructor
  · intro h; exact UInt8.toNat_inj.1 (by simpa using h)
  · intro h; rw [h]; rfl

/-- bytes that differ -/
def xorL (a b : List UInt8) : List UInt8 := List.zipWith (· ^^^ ·) a b

def xorV (a b : List UInt8) (i : Nat) : Value := By (a.getD i 0 ^^^ b.getD i 0)

theorem xorL_length (a b : List UInt8) : (xorL a b).length = min a.length b.length := by simp [xorL]

theorem xorL_vals (a b : List UInt8) : (xorL a b).map By = (List.range (min a.length b.length)).map (xorV a b) := by
  apply List.ext_getElem
  · simp [xorL]
  · intro i h1 h2
    simp [xorL] at h1
    have h3 : i < a.length := by omega
    have h4 : i < b.length := by omega
    simp [xorL, xorV, List.getD, h3, h4]
theorem xor_ge (oa ob : Option Addr) (a b : List UInt8) (c d : Nat) (w : World) (ha : Cells w oa (a.map By)) (hb : Cells w ob (b.map By)) (hla : a.length ≤ 140737488351232) (hlb : b.length ≤ 140737488351232)
   (hge : ¬ b.length < a.length) :
    Calls Try.prog 29 #[.slice oa a.length c, .slice ob b.length d] w (RowOut w ((xorL a b).map By)) := by
  obtain ⟨i5, hi, hz0, hz1, hz2⟩ := info_parts Try.info5
  have hmin : Hid (min a.length b.length = a.length) := by show min _ _ = _; omega
  go_enter Try.func29, Try.ntmps29
  go_wp2_with (at_make; refine wpList_make_full _ rfl (.tmp 13) (.tmp 13) 23 rfl w.heap.size 5 i5 (.int .u8 0) 1 Try.underlying23 hi hz0 hz1 .i64 .i64 _ _ a.length rfl rfl rfl rfl ?c1 ?c2 ?c3 ?_)
  case c1 => rw [hz2]; omega
  case c2 => unfold maxLen; omega
  case c3 => exact Nat.le_refl _
  intro w1 hown hgrow
  go_wp2
  go_loopw [7, 16] (fun _ i wr => ∃ k : Nat, k ≤ a.length ∧ i = .int .i64 k ∧ wr.ownsRow w.heap.size 5 1 (.slice (some ⟨w.heap.size, 0, none⟩) a.length a.length) a.length (fillTo (xorV a b) (.int .u8 0) k a.length) ∧ Below w.heap.size w wr)
    (fun _ i _ => a.length - (intOf i).toNat)
  case atStart =>
    refine ⟨0, Nat.zero_le _, rfl, ?_, (Below.refl _ _).grown hgrow (Nat.le_refl _) (by simp)⟩
    rw [fillTo_zero]; simpa [toList_madeCells_one] using hown
  case round =>
    obtain ⟨k, hk, rfl, hown', hbel⟩ := hrel
    by_cases hlt : k < a.length
    · have hlta : k < a.length := by omega
      have hltb : k < b.length := by omega
      obtain ⟨b1, o1, rfl, hb1, hc1⟩ := ha.bytes hlta
      obtain ⟨b2, o2, rfl, hb2, hc2⟩ := hb.bytes hltb
      have hc1' := (hbel.cell (p := ⟨b1, o1 + k, none⟩) hb1).trans hc1
      have hc2' := (hbel.cell (p := ⟨b2, o2 + k, none⟩) hb2).trans hc2
      have hc3 := (hown'.cellAt k (by omega)).trans (fillTo_get _ _ _ _ _ hlt)
      have hfz := hown'.frozenAt k
      have hst := hown'.stored k (xorV a b k)
      rw [fillTo_set] at hst
      have hbel' := hbel.setCell (p := ⟨w.heap.size, k, none⟩) (Nat.le_refl _) (xorV a b k)
      have HBEL := Lib.hid hbel'
      have HST := Lib.hid hst; clear hst hown' hown hbel hbel'
      have hn1 : w.heap.size ≠ b1 := by omega
      have hn2 : w.heap.size ≠ b2 := by omega
      have HV : Hid (xorV a b k = Value.int .u8 (bits .xor .u8 (a[k].toNat : Int) (b[k].toNat : Int))) := by
        show _ = _
        rw [bits_xor_u8]; simp [xorV, By, List.getD, hlta, hltb]
      clear hc1 hc2
      go_wp2
      go_region
      go_wp2
      go_roundw
      case rel =>
        rw [← HV.out]
        exact ⟨k + 1, by omega, by go_num, HST.out.1, HBEL.out.drew⟩
      case measure => simp [intOf]; omega
    · have hkn : k = a.length := by omega
      subst hkn
      go_wp2
      go_ret
      rw [fillTo_full] at hown'
      obtain ⟨oa', c', hv, hn, hcs⟩ := Cells.of_owns hown'
      refine ⟨oa', c', ?_, ?_, hbel⟩
      · rw [xorL_vals, hmin.out]; exact congrArg Ending.returned hv
      · rw [xorL_vals, hmin.out]; exact hcs
theorem xor_lt (oa ob : Option Addr) (a b : List UInt8) (c d : Nat) (w : World) (ha : Cells w oa (a.map By)) (hb : Cells w ob (b.map By)) (hla : a.length ≤ 140737488351232) (hlb : b.length ≤ 140737488351232)
   (hge : b.length < a.length) :
    Calls Try.prog 29 #[.slice oa a.length c, .slice ob b.length d] w (RowOut w ((xorL a b).map By)) := by
  obtain ⟨i5, hi, hz0, hz1, hz2⟩ := info_parts Try.info5
  have hmin : Hid (min a.length b.length = b.length) := by show min _ _ = _; omega
  go_enter Try.func29, Try.ntmps29
  go_wp2_with (at_make; refine wpList_make_full _ rfl (.tmp 13) (.tmp 13) 23 rfl w.heap.size 5 i5 (.int .u8 0) 1 Try.underlying23 hi hz0 hz1 .i64 .i64 _ _ b.length rfl rfl rfl rfl ?c1 ?c2 ?c3 ?_)
  case c1 => rw [hz2]; omega
  case c2 => unfold maxLen; omega
  case c3 => exact Nat.le_refl _
  intro w1 hown hgrow
  go_wp2
  go_loopw [7, 16] (fun _ i wr => ∃ k : Nat, k ≤ b.length ∧ i = .int .i64 k ∧ wr.ownsRow w.heap.size 5 1 (.slice (some ⟨w.heap.size, 0, none⟩) b.length b.length) b.length (fillTo (xorV a b) (.int .u8 0) k b.length) ∧ Below w.heap.size w wr)
    (fun _ i _ => b.length - (intOf i).toNat)
  case atStart =>
    refine ⟨0, Nat.zero_le _, rfl, ?_, (Below.refl _ _).grown hgrow (Nat.le_refl _) (by simp)⟩
    rw [fillTo_zero]; simpa [toList_madeCells_one] using hown
  case round =>
    obtain ⟨k, hk, rfl, hown', hbel⟩ := hrel
    by_cases hlt : k < b.length
    · have hlta : k < a.length := by omega
      have hltb : k < b.length := by omega
      obtain ⟨b1, o1, rfl, hb1, hc1⟩ := ha.bytes hlta
      obtain ⟨b2, o2, rfl, hb2, hc2⟩ := hb.bytes hltb
      have hc1' := (hbel.cell (p := ⟨b1, o1 + k, none⟩) hb1).trans hc1
      have hc2' := (hbel.cell (p := ⟨b2, o2 + k, none⟩) hb2).trans hc2
      have hc3 := (hown'.cellAt k (by omega)).trans (fillTo_get _ _ _ _ _ hlt)
      have hfz := hown'.frozenAt k
      have hst := hown'.stored k (xorV a b k)
      rw [fillTo_set] at hst
      have hbel' := hbel.setCell (p := ⟨w.heap.size, k, none⟩) (Nat.le_refl _) (xorV a b k)
      have HBEL := Lib.hid hbel'
      have HST := Lib.hid hst; clear hst hown' hown hbel hbel'
      have hn1 : w.heap.size ≠ b1 := by omega
      have hn2 : w.heap.size ≠ b2 := by omega
      have HV : Hid (xorV a b k = Value.int .u8 (bits .xor .u8 (a[k].toNat : Int) (b[k].toNat : Int))) := by
        show _ = _
        rw [bits_xor_u8]; simp [xorV, By, List.getD, hlta, hltb]
      clear hc1 hc2
      go_wp2
      go_region
      go_wp2
      go_roundw
      case rel =>
        rw [← HV.out]
        exact ⟨k + 1, by omega, by go_num, HST.out.1, HBEL.out.drew⟩
      case measure => simp [intOf]; omega
    · have hkn : k = b.length := by omega
      subst hkn
      go_wp2
      go_ret
      rw [fillTo_full] at hown'
      obtain ⟨oa', c', hv, hn, hcs⟩ := Cells.of_owns hown'
      refine ⟨oa', c', ?_, ?_, hbel⟩
      · rw [xorL_vals, hmin.out]; exact congrArg Ending.returned hv
      · rw [xorL_vals, hmin.out]; exact hcs
theorem xor_any (oa ob : Option Addr) (a b : List UInt8) (c d : Nat) (w : World) (ha : Cells w oa (a.map By)) (hb : Cells w ob (b.map By)) (hla : a.length ≤ 140737488351232) (hlb : b.length ≤ 140737488351232) :
    Calls Try.prog 29 #[.slice oa a.length c, .slice ob b.length d] w (RowOut w ((xorL a b).map By)) := by
  by_cases h : b.length < a.length
  · exact xor_lt oa ob a b c d w ha hb hla hlb h
  · exact xor_ge oa ob a b c d w ha hb hla hlb h
theorem xorL_zero (a b : List UInt8) (h : a.length = b.length) : zeroL (xorL a b) = decide (a = b) := by
  induction a generalizing b with
  | nil => cases b with
    | nil => rfl
    | cons y b => simp at h
  | cons x a ih => cases b with
    | nil => simp at h
    | cons y b =>
      have h' : a.length = b.length := by simpa using h
      have e : zeroL (xorL (x :: a) (y :: b)) = ((x ^^^ y == 0) && zeroL (xorL a b)) := rfl
      rw [e, ih b h', Bool.eq_iff_iff]
      simp

theorem bytes_any (oa ob : Option Addr) (a b : List UInt8) (c d : Nat) (w : World) (ha : Cells w oa (a.map By)) (hb : Cells w ob (b.map By)) (hla : a.length ≤ 140737488351232) (hlb : b.length ≤ 140737488351232) :
    Calls Try.prog 23 #[.slice oa a.length c, .slice ob b.length d] w fun e w' => e = .returned (.bool (decide (a = b))) ∧ Below w.heap.size w w' := by
  by_cases hne : a.length = b.length
  · have hne1 : ((a.length : Int) == (b.length : Int)) = true := by simp [hne]
    have hz := xorL_zero a b hne
    have HZ := Lib.hid hz; clear hz hne
    go_enter Try.func23, Try.ntmps23
    go_wp2_with fail
    refine (xor_any _ _ _ _ _ _ _ ha hb hla hlb).mono ?_
    rintro e w1 ⟨oa', c', rfl, hcs, hbel⟩
    simp only [List.length_map]
    go_wp2_with fail
    refine (zero_any _ _ _ _ hcs (by rw [xorL_length]; omega)).mono ?_
    rintro e w2 ⟨rfl, rfl⟩
    go_wp2
    go_ret
    exact ⟨congrArg (fun x => Ending.returned (.bool x)) HZ.out, hbel⟩
  · have hne1 : ((a.length : Int) == (b.length : Int)) = false := by rw [beq_eq_false_iff_ne]; omega
    have H := Lib.hid hne; clear hne
    go_enter Try.func23, Try.ntmps23
    go_wp2
    go_ret
    exact ⟨congrArg (fun x => Ending.returned (.bool x)) (decide_eq_false (fun h => H.out (by rw [h]))).symm, Below.refl _ _⟩
end Go.Proofs.Ytlheepcojeaeaaa
