/-
  Walk: the reference Xor.
-/
import Derived.Test.YtgpaekmkkjbilaaWa
namespace Go.Proofs.Ytgpaekmkkjbilaa
open Go.RowKit
set_option maxHeartbeats 400000
set_option linter.unusedVariables false
set_option linter.unusedSimpArgs false

theorem bit_int (x y : UInt8) (w : World) :
    Calls Try.prog 17 #[.int .u8 (x.toNat : Int), .int .u8 (y.toNat : Int)] w fun e w' => e = .returned (.int .u8 ((x ^^^ y).toNat : Int)) ∧ ∃ n, w' = w.drewN n := bit_any x y w

theorem refXor_any (oa ob : Option Addr) (a b : List UInt8) (c d : Nat) (w : World) (ha : Cells w oa (a.map By)) (hb : Cells w ob (b.map By)) (hla : a.length ≤ 140737488351232) (hlb : b.length ≤ 140737488351232) :
    Calls Try.prog 14 #[.slice oa a.length c, .slice ob b.length d] w (RowOut w ((xorL a b).map By)) := by
  obtain ⟨i5, hi, hz0, hz1, hz2⟩ := info_parts Try.info5
  go_enter Try.func14, Try.ntmps14
  go_wp2
  go_loopw [5, 6] (fun v i wr => ∃ k : Nat, k ≤ a.length ∧ k ≤ b.length ∧ i = .int .i64 k ∧ wr.ownsRow w.heap.size 5 1 v k (((xorL a b).take k).map By) ∧ Below w.heap.size w wr)
    (fun _ i _ => a.length - (intOf i).toNat)
  case atStart => exact ⟨0, by omega, by omega, rfl, World.ownsRow_nil _ _ _ _, Below.refl _ _⟩
  case round =>
    obtain ⟨k, hk, hk2, rfl, hown, hbel⟩ := hrel
    by_cases hlta : k < a.length
    · by_cases hltb : k < b.length
      · obtain ⟨b1, o1, rfl, hb1, hc1⟩ := ha.bytes hlta
        obtain ⟨b2, o2, rfl, hb2, hc2⟩ := hb.bytes hltb
        have hc1' := (hbel.cell (p := ⟨b1, o1 + k, none⟩) hb1).trans hc1
        have hc2' := (hbel.cell (p := ⟨b2, o2 + k, none⟩) hb2).trans hc2
        clear hc1 hc2
        have h10 : (0 : Int) ≤ (k : Int) := by omega
        have h11 : (k : Int) < (a.length : Int) := by omega
        have h12 : (k : Int) < (b.length : Int) := by omega
        have HOW := Lib.hid hown; have HBE := Lib.hid hbel; clear hown hbel
        have HS : Hid (((xorL a b).take (k + 1)).map By = ((xorL a b).take k).map By ++ [Value.int .u8 ((a[k] ^^^ b[k]).toNat : Int)]) := by
          show _ = _
          have h1 : k < (xorL a b).length := by rw [xorL_length]; omega
          rw [List.take_succ_eq_append_getElem h1, List.map_append]
          simp [xorL, By]
        go_wp2
        have hne1 : u5.ownBlock ≠ some b1 := fun h => by have := (HOW.out.lt _ h).1; omega
        have hne2 : u5.ownBlock ≠ some b2 := fun h => by have := (HOW.out.lt _ h).1; omega
        have hb1' : b1 < wr.heap.size := Nat.lt_of_lt_of_le hb1 HBE.out.size
        have hb2' : b2 < wr.heap.size := Nat.lt_of_lt_of_le hb2 HBE.out.size
        have hsz : w.heap.size ≤ wr.heap.size := HBE.out.size
        go_region_held3 (fun w' => w'.cell? ⟨b1, o1 + k, none⟩ = some (.int .u8 (a[k].toNat : Int)) ∧ w'.cell? ⟨b2, o2 + k, none⟩ = some (.int .u8 (b[k].toNat : Int)))
          (first
            | go_keep
            | (go_split_ands
               refine ⟨?_, ?_⟩
               · (rw [hgrow.cell_far _ (by simp; omega) (Ne.symm hne1)]; assumption)
               · (rw [hgrow.cell_far _ (by simp; omega) (Ne.symm hne2)]; assumption)))
          (first
            | (go_at_call 17; refine (bit_int _ _ _).mono ?_; rintro e w' ⟨rfl, n, rfl⟩)
            | ((refine step_append_lies _ (by rfl) _ _ _ (by rfl) w.heap.size 5 i5 _ 1 1 Try.underlying22 hi hz0 hz1 hz2 rfl (by omega) u5 k _ (by rfl) (HOW.out.alloc _) ⟨wr.heap.size, 0, none⟩ 1 1 [.int .u8 ((a[k] ^^^ b[k]).toNat : Int)] (by rfl) (by rfl) (World.news_of_block (cs := #[.int .u8 ((a[k] ^^^ b[k]).toNat : Int)]) (t := 5) (fr := (0, 0)) (heap_alloc_new _ _)) (by simp [Value.oneCell']) (by omega) (by simp only [maxLen]; omega) (by omega) (by simp; omega) (wr.heap.size + 1) (by simp) ?_; intro gg cap w1 hown1 hgrow hat hlt)))
        have HB2 : Hid (Below w.heap.size w w1) := by
          refine (((below_drewN HBE.out (1 + n)).alloc (by simp; omega) _).grown hgrow (by simp; omega) ?_)
          intro g hg
          exact (HOW.out.lt _ hg).1
        rw [← HS.out] at hown1
        have HOW1 := Lib.hid hown1; clear hown1 hgrow
        go_wp2
        go_roundw
        case rel => exact ⟨k + 1, by omega, by omega, by go_num, HOW1.out, HB2.out⟩
        case measure => simp [intOf]; omega
      · have hkk : k = b.length := by omega
        have HOW := Lib.hid hown; clear hown
        go_wp2
        go_ret
        obtain ⟨oa', c', hv, hn, hcs⟩ := Cells.of_owns HOW.out
        have e : (xorL a b).take k = xorL a b := List.take_of_length_le (by rw [xorL_length]; omega)
        rw [e] at hv hcs
        exact ⟨oa', c', congrArg Ending.returned hv, hcs, hbel⟩
    · have hkk : k = a.length := by omega
      have HOW := Lib.hid hown; clear hown
      go_wp2
      go_ret
      obtain ⟨oa', c', hv, hn, hcs⟩ := Cells.of_owns HOW.out
      have e : (xorL a b).take k = xorL a b := List.take_of_length_le (by rw [xorL_length]; omega)
      rw [e] at hv hcs
      exact ⟨oa', c', congrArg Ending.returned hv, hcs, hbel⟩

end Go.Proofs.Ytgpaekmkkjbilaa
