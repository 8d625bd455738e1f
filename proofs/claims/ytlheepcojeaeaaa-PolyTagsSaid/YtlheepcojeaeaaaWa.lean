/-
  Walks of numbers of five parts: carries.
-/
import Derived.Test.YtlheepcojeaeaaaRows
import Derived.Test.YtlheepcojeaeaaaEager
import Derived.Test.YtlheepcojeaeaaaBlk
namespace Go.Proofs.Ytlheepcojeaeaaa
open Go.RowKit
set_option maxHeartbeats 400000
set_option linter.unusedVariables false
set_option linter.unusedSimpArgs false

/-- a word as a value -/
def U64 (x : UInt64) : Value := .int .u64 (x.toNat : Int)

theorem add_u64 (a b : UInt64) : IntKind.u64.wrap ((a.toNat : Int) + (b.toNat : Int)) = ((a + b).toNat : Int) := by
  rw [IntKind.wrap_u64, UInt64.toNat_add]; omega
theorem and_u64 (a b : UInt64) : bits .and .u64 (a.toNat : Int) (b.toNat : Int) = ((a &&& b).toNat : Int) := by
  rw [u64_and_nat _ _ a.toNat_lt b.toNat_lt, UInt64.toNat_and]
theorem mask_u64 (a : UInt64) : bits .and .u64 (a.toNat : Int) (67108863 : Int) = ((a &&& 67108863).toNat : Int) := and_u64 a 67108863
theorem shr26_u64 (a : UInt64) : (a.toNat : Int) / (67108864 : Int) = ((a >>> 26).toNat : Int) := by
  rw [UInt64.toNat_shiftRight, Nat.shiftRight_eq_div_pow]; simp

/-- one part's carry -/
def cStep (s : List UInt64 × UInt64) (i : Nat) : List UInt64 × UInt64 := (s.1.set i ((s.1.getD i 0 + s.2) &&& 67108863), (s.1.getD i 0 + s.2) >>> 26)
def cIter (n : List UInt64) : Nat → List UInt64 × UInt64
  | 0 => (n, 0)
  | k + 1 => cStep (cIter n k) k
theorem cIter_length (n : List UInt64) : ∀ k, (cIter n k).1.length = n.length
  | 0 => rfl
  | k + 1 => by simp [cIter, cStep, cIter_length n k]

/-- a number of five parts -/
structure N5 where
  a : UInt64
  b : UInt64
  c : UInt64
  d : UInt64
  e : UInt64
def N5.list (n : N5) : List UInt64 := [n.a, n.b, n.c, n.d, n.e]
def N5.of (l : List UInt64) : N5 := ⟨l.getD 0 0, l.getD 1 0, l.getD 2 0, l.getD 3 0, l.getD 4 0⟩
def N5.val (n : N5) : Value := .agg #[.int .u64 (n.a.toNat : Int), .int .u64 (n.b.toNat : Int), .int .u64 (n.c.toNat : Int), .int .u64 (n.d.toNat : Int), .int .u64 (n.e.toNat : Int)]

/-- carries -/
def carryM (n : List UInt64) : N5 :=
  let m := N5.of (cIter n 5).1
  let x := m.a + (cIter n 5).2 * 5
  ⟨x &&& 67108863, m.b + (x >>> 26), m.c, m.d, m.e⟩

theorem five (l : List UInt64) (h : l.length = 5) : l = (N5.of l).list := by
  match l, h with
  | [a, b, c, d, e], _ => rfl

theorem mul5_u64 (a : UInt64) : IntKind.u64.wrap ((a.toNat : Int) * 5) = ((a * 5).toNat : Int) := by
  rw [IntKind.wrap_u64, UInt64.toNat_mul]; simp

theorem carry15 (a b c d e : UInt64) (w : World) :
    Calls Try.prog 15 #[.agg #[.int .u64 (a.toNat : Int), .int .u64 (b.toNat : Int), .int .u64 (c.toNat : Int), .int .u64 (d.toNat : Int), .int .u64 (e.toNat : Int)]] w fun r w' => r = .returned (carryM [a, b, c, d, e]).val ∧ Below w.heap.size w w' := by
  generalize hn : [a, b, c, d, e] = n
  have hB : Blk ((w.alloc (.cells #[.int .u64 (a.toNat : Int), .int .u64 (b.toNat : Int), .int .u64 (c.toNat : Int), .int .u64 (d.toNat : Int), .int .u64 (e.toNat : Int)] 36)).alloc (.cells #[.int .u64 0, .int .u64 0, .int .u64 0, .int .u64 0, .int .u64 0] 36)) w.heap.size (n.map U64) := by
    rw [← hn]; exact Blk.first w ([a, b, c, d, e].map U64) 36 _
  have hR : Blk ((w.alloc (.cells #[.int .u64 (a.toNat : Int), .int .u64 (b.toNat : Int), .int .u64 (c.toNat : Int), .int .u64 (d.toNat : Int), .int .u64 (e.toNat : Int)] 36)).alloc (.cells #[.int .u64 0, .int .u64 0, .int .u64 0, .int .u64 0, .int .u64 0] 36)) (w.heap.size + 1) ([0, 0, 0, 0, 0].map U64) :=
    Blk.second w ([0, 0, 0, 0, 0].map U64) 36 _
  have HB := Lib.hid hB; have HR := Lib.hid hR; clear hB hR
  have HN := Lib.hid (show n.length = 5 from by rw [← hn]; rfl); have HNN := Lib.hid hn; clear hn
  have h0 : Below w.heap.size w ((w.alloc (.cells #[.int .u64 (a.toNat : Int), .int .u64 (b.toNat : Int), .int .u64 (c.toNat : Int), .int .u64 (d.toNat : Int), .int .u64 (e.toNat : Int)] 36)).alloc (.cells #[.int .u64 0, .int .u64 0, .int .u64 0, .int .u64 0, .int .u64 0] 36)) := below_step ((Below.refl _ _).alloc (Nat.le_refl _) _) ((Below.refl _ _).alloc (Nat.le_refl _) _)
  have H0 := Lib.hid h0; clear h0
  go_enter Try.func15, Try.ntmps15
  go_wp2
  go_loopw [3, 5] (fun o i wr => ∃ k : Nat, k ≤ 5 ∧ i = .int .i64 k ∧ o = .int .u64 ((cIter n k).2.toNat : Int) ∧ Hid (Blk wr w.heap.size ((cIter n k).1.map U64)) ∧ Hid (Blk wr (w.heap.size + 1) ([0, 0, 0, 0, 0].map U64)) ∧ Hid (Below w.heap.size w wr)) (fun _ i _ => 5 - (intOf i).toNat)
  case atStart => exact ⟨0, by omega, rfl, rfl, HB, HR, H0⟩
  case round =>
    obtain ⟨k, hk, rfl, rfl, hB, hR, hbel⟩ := hrel
    by_cases hlt : k < 5
    · have hlen := cIter_length n k
      have hkl : k < (cIter n k).1.length := by rw [hlen, HN.out]; exact hlt
      have hc := hB.out.at' k (by simpa using hkl)
      have hf := hB.out.froz k
      rw [List.getElem_map] at hc
      unfold U64 at hc
      have hk5 : (k : Int) < 5 := by omega
      have HS : Hid (cIter n (k + 1) = ((cIter n k).1.set k (((cIter n k).1[k] + (cIter n k).2) &&& 67108863), ((cIter n k).1[k] + (cIter n k).2) >>> 26)) := by
        show cStep _ _ = _
        unfold cStep
        simp [List.getD, hkl]
      generalize (cIter n k).1[k] = x at *
      generalize (cIter n k).2 = o at *
      have r1 := add_u64 x o
      have r2 := mask_u64 (x + o)
      have r3 := shr26_u64 (x + o)
      have HS1 := Lib.hid ((hB.out.set k (by simpa using hkl) (.int .u64 ((x + o).toNat : Int))).set k (by simpa using hkl) (.int .u64 (((x + o) &&& 67108863).toNat : Int)))
      generalize hz : (x + o) &&& 67108863 = z at *
      generalize hv : (x + o) >>> 26 = v at *
      generalize x + o = y at *
      have HZ := Lib.hid hz; have HV := Lib.hid hv; clear hz hv
      generalize x.toNat = X at *
      generalize o.toNat = O at *
      generalize y.toNat = Y at *
      generalize hzz : z.toNat = Z at *
      generalize hvv : v.toNat = V at *
      have HZZ := Lib.hid hzz; have HVV := Lib.hid hvv; clear hzz hvv hlen
      go_wp2
      go_roundw
      case rel =>
        refine ⟨k + 1, by omega, by go_num, by rw [HS.out, HVV.out], ?_, ?_, ?_⟩
        · rw [HS.out]
          have h2 := HS1.out
          rw [List.set_set] at h2
          rw [List.map_set]
          unfold U64
          rw [HZZ.out]
          exact h2
        · exact (hR.out.setOther (a := ⟨w.heap.size, k, none⟩) (by simp) _).setOther (a := ⟨w.heap.size, k, none⟩) (by simp) _
        · exact (hbel.out.setCell (p := ⟨w.heap.size, k, none⟩) (Nat.le_refl _) _).setCell (p := ⟨w.heap.size, k, none⟩) (Nat.le_refl _) _
      case measure => simp [intOf]; omega
    · obtain rfl : k = 5 := by omega
      have hl := (cIter_length n 5).trans HN.out
      have hM := five _ hl
      have hcm : carryM n = ⟨((N5.of (cIter n 5).1).a + (cIter n 5).2 * 5) &&& 67108863, (N5.of (cIter n 5).1).b + (((N5.of (cIter n 5).1).a + (cIter n 5).2 * 5) >>> 26), (N5.of (cIter n 5).1).c, (N5.of (cIter n 5).1).d, (N5.of (cIter n 5).1).e⟩ := rfl
      rw [hM] at hB
      clear hl hM HB HR H0
      generalize N5.of (cIter n 5).1 = m at *
      generalize (cIter n 5).2 = o at *
      have HCM := Lib.hid hcm; clear hcm
      obtain ⟨m0, m1, m2, m3, m4⟩ := m
      have B0 : Blk wr w.heap.size [U64 m0, U64 m1, U64 m2, U64 m3, U64 m4] := hB.out
      have c0 := B0.at' 0 (by simp); have c1 := B0.at' 1 (by simp); have c2 := B0.at' 2 (by simp); have c3 := B0.at' 3 (by simp); have c4 := B0.at' 4 (by simp)
      have f := B0.froz
      have d0 := hR.out.at' 0 (by simp); have d1 := hR.out.at' 1 (by simp); have d2 := hR.out.at' 2 (by simp); have d3 := hR.out.at' 3 (by simp); have d4 := hR.out.at' 4 (by simp)
      have g := hR.out.froz
      simp only [List.map_cons, List.getElem_cons_zero, List.getElem_cons_succ, U64] at c0 c1 c2 c3 c4 d0 d1 d2 d3 d4
      simp only at HCM
      have r0 := mul5_u64 o
      generalize o * 5 = p at *
      have r1 := add_u64 m0 p
      generalize m0 + p = x at *
      have r2 := shr26_u64 x
      generalize x >>> 26 = v at *
      have r3 := add_u64 m1 v
      generalize m1 + v = y at *
      have r4 := mask_u64 x
      generalize x &&& 67108863 = z at *
      generalize o.toNat = O at *
      generalize p.toNat = P at *
      generalize x.toNat = X at *
      generalize v.toNat = V at *
      generalize m0.toNat = M0 at *
      generalize m1.toNat = M1 at *
      generalize hy : y.toNat = Y at *
      generalize hz : z.toNat = Z at *
      generalize h2 : m2.toNat = M2 at *
      generalize h3 : m3.toNat = M3 at *
      generalize h4 : m4.toNat = M4 at *
      have HY := Lib.hid hy; have HZ := Lib.hid hz; have H2 := Lib.hid h2; have H3 := Lib.hid h3; have H4 := Lib.hid h4
      clear hy hz h2 h3 h4 B0
      have RR := Lib.hid ((((((((hR.out.setOther (a := ⟨w.heap.size, 0, none⟩) (by simp) (.int .u64 (X : Int))).setOther (a := ⟨w.heap.size, 1, none⟩) (by simp) (.int .u64 (Y : Int))).setOther (a := ⟨w.heap.size, 0, none⟩) (by simp) (.int .u64 (Z : Int))).set 0 (by simp) (.int .u64 (Z : Int))).set 1 (by simp) (.int .u64 (Y : Int))).set 2 (by simp) (.int .u64 (M2 : Int))).set 3 (by simp) (.int .u64 (M3 : Int))).set 4 (by simp) (.int .u64 (M4 : Int)))
      have BB := Lib.hid ((((((((hbel.out.setCell (p := ⟨w.heap.size, 0, none⟩) (by simp) (.int .u64 (X : Int))).setCell (p := ⟨w.heap.size, 1, none⟩) (by simp) (.int .u64 (Y : Int))).setCell (p := ⟨w.heap.size, 0, none⟩) (by simp) (.int .u64 (Z : Int))).setCell (p := ⟨w.heap.size + 1, 0, none⟩) (by simp) (.int .u64 (Z : Int))).setCell (p := ⟨w.heap.size + 1, 1, none⟩) (by simp) (.int .u64 (Y : Int))).setCell (p := ⟨w.heap.size + 1, 2, none⟩) (by simp) (.int .u64 (M2 : Int))).setCell (p := ⟨w.heap.size + 1, 3, none⟩) (by simp) (.int .u64 (M3 : Int))).setCell (p := ⟨w.heap.size + 1, 4, none⟩) (by simp) (.int .u64 (M4 : Int)))
      go_wp2
      clear c0 c1 c2 c3 c4 d0 d1 d2 d3 d4
      have R2 := RR.out
      have e0 := R2.at' 0 (by simp); have e1 := R2.at' 1 (by simp); have e2 := R2.at' 2 (by simp); have e3 := R2.at' 3 (by simp); have e4 := R2.at' 4 (by simp)
      simp only [List.map_cons, List.map_nil, List.set_cons_zero, List.set_cons_succ, List.getElem_cons_zero, List.getElem_cons_succ] at e0 e1 e2 e3 e4
      refine bodyPost_ret (v := .agg #[.int .u64 (Z : Int), .int .u64 (Y : Int), .int .u64 (M2 : Int), .int .u64 (M3 : Int), .int .u64 (M4 : Int)]) (by simp [results, Try.results15, go_sem, e0, e1, e2, e3, e4]) rfl ⟨?_, BB.out⟩
      rw [HCM.out]
      unfold N5.val
      simp only
      rw [HY.out, HZ.out, H2.out, H3.out, H4.out]

theorem bit24 (i : Nat) (w : World) (hi : i < 1000) : Calls Try.prog 24 #[.int .i64 (i : Int)] w fun r w' => r = .returned (.tuple #[.int .i64 ((8 * i / 26 : Nat) : Int), .int .i64 ((8 * i % 26 : Nat) : Int)]) ∧ w' = w := by
  have r1 : IntKind.i64.wrap (8 * (i : Int)) = ((8 * i : Nat) : Int) := by rw [IntKind.wrap_i64]; omega
  have h1 : ((8 * i : Nat) : Int) / 26 = ((8 * i / 26 : Nat) : Int) := by omega
  have h2 : ((8 * i : Nat) : Int) % 26 = ((8 * i % 26 : Nat) : Int) := by omega
  have h3 : IntKind.i64.wrap ((8 * i / 26 : Nat) : Int) = ((8 * i / 26 : Nat) : Int) := by rw [IntKind.wrap_i64]; omega
  generalize 8 * i / 26 = p at *
  generalize 8 * i % 26 = q at *
  generalize 8 * i = k at *
  go_enter Try.func24, Try.ntmps24
  go_wp2
  refine bodyPost_ret (v := .tuple #[.int .i64 (p : Int), .int .i64 (q : Int)]) (by simp [results, Try.results24, go_sem, h2, h3]) rfl ⟨rfl, rfl⟩
end Go.Proofs.Ytlheepcojeaeaaa
