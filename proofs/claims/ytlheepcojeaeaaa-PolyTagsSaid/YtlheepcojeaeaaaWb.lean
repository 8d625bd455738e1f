/-
  Walks of numbers of five parts: sums.
-/
import Derived.Test.YtlheepcojeaeaaaWa
namespace Go.Proofs.Ytlheepcojeaeaaa
open Go.RowKit
set_option maxHeartbeats 400000
set_option linter.unusedVariables false
set_option linter.unusedSimpArgs false

/-- the sum, part by part, so far -/
def aIter (n m : List UInt64) : Nat → List UInt64
  | 0 => n
  | k + 1 => (aIter n m k).set k ((aIter n m k).getD k 0 + m.getD k 0)
theorem aIter_length (n m : List UInt64) : ∀ k, (aIter n m k).length = n.length
  | 0 => rfl
  | k + 1 => by simp [aIter, aIter_length n m k]

def z5 : Obj := .cells #[.int .u64 0, .int .u64 0, .int .u64 0, .int .u64 0, .int .u64 0] 36
def N5.obj (n : N5) : Obj := .cells #[.int .u64 (n.a.toNat : Int), .int .u64 (n.b.toNat : Int), .int .u64 (n.c.toNat : Int), .int .u64 (n.d.toNat : Int), .int .u64 (n.e.toNat : Int)] 36

theorem add16 (a b : N5) (w : World) :
    Calls Try.prog 16 #[.agg #[.int .u64 (a.a.toNat : Int), .int .u64 (a.b.toNat : Int), .int .u64 (a.c.toNat : Int), .int .u64 (a.d.toNat : Int), .int .u64 (a.e.toNat : Int)], .agg #[.int .u64 (b.a.toNat : Int), .int .u64 (b.b.toNat : Int), .int .u64 (b.c.toNat : Int), .int .u64 (b.d.toNat : Int), .int .u64 (b.e.toNat : Int)]] w
      fun r w' => r = .returned (N5.mk (a.a + b.a) (a.b + b.b) (a.c + b.c) (a.d + b.d) (a.e + b.e)).val ∧ Below w.heap.size w w' := by
  have hA : Blk (((w.alloc a.obj).alloc b.obj).alloc z5) w.heap.size (a.list.map U64) := (Blk.first w (a.list.map U64) 36 b.obj).alloc z5
  have hB : Blk (((w.alloc a.obj).alloc b.obj).alloc z5) (w.heap.size + 1) (b.list.map U64) := (Blk.second w (b.list.map U64) 36 a.obj).alloc z5
  have hR : Blk (((w.alloc a.obj).alloc b.obj).alloc z5) (w.heap.size + 1 + 1) ([0, 0, 0, 0, 0].map U64) := by
    have := Blk.second (w.alloc a.obj) ([0, 0, 0, 0, 0].map U64) 36 b.obj
    rw [World.size_alloc] at this
    exact this
  have h0 : Below w.heap.size w (((w.alloc a.obj).alloc b.obj).alloc z5) := below_step (below_step ((Below.refl _ _).alloc (Nat.le_refl _) _) ((Below.refl _ _).alloc (Nat.le_refl _) _)) ((Below.refl _ _).alloc (Nat.le_refl _) _)
  have HA := Lib.hid hA; have HB := Lib.hid hB; have HR := Lib.hid hR; have H0 := Lib.hid h0; clear hA hB hR h0
  go_enter Try.func16, Try.ntmps16
  go_wp2
  have hla : a.list.length = 5 := rfl
  have hlb : b.list.length = 5 := rfl
  generalize hla' : a.list = n at *
  generalize hlb' : b.list = m at *
  have HLA := Lib.hid hla'; have HLB := Lib.hid hlb'; have HNL := Lib.hid hla; have HML := Lib.hid hlb; clear hla' hlb' hla hlb
  go_loopw [6] (fun i wr => ∃ k : Nat, k ≤ 5 ∧ i = .int .i64 k ∧ Hid (Blk wr w.heap.size ((aIter n m k).map U64)) ∧ Hid (Blk wr (w.heap.size + 1) (m.map U64)) ∧ Hid (Blk wr (w.heap.size + 1 + 1) ([0, 0, 0, 0, 0].map U64)) ∧ Hid (Below w.heap.size w wr)) (fun i _ => 5 - (intOf i).toNat)
  case atStart => exact ⟨0, by omega, rfl, HA, HB, HR, H0⟩
  case round =>
    obtain ⟨k, hk, rfl, hA, hB, hR, hbel⟩ := hrel
    clear HA HB HR H0
    by_cases hlt : k < 5
    · have hkl : k < (aIter n m k).length := by rw [aIter_length, HNL.out]; exact hlt
      have hkm : k < m.length := by rw [HML.out]; exact hlt
      have hc := hA.out.at' k (by simpa using hkl)
      have hcm := hB.out.at' k (by simpa using hkm)
      have hf := hA.out.froz k
      rw [List.getElem_map] at hc hcm
      unfold U64 at hc hcm
      have hk5 : (k : Int) < 5 := by omega
      have HS : Hid (aIter n m (k + 1) = (aIter n m k).set k ((aIter n m k)[k] + m[k])) := by
        show aIter n m (k + 1) = _
        simp [aIter, List.getD, hkl, hkm]
      generalize (aIter n m k)[k] = x at *
      generalize m[k] = y at *
      have r1 := add_u64 x y
      have HS1 := Lib.hid (hA.out.set k (by simpa using hkl) (.int .u64 ((x + y).toNat : Int)))
      generalize hz : x + y = z at *
      have HZ := Lib.hid hz; clear hz
      generalize x.toNat = X at *
      generalize y.toNat = Y at *
      generalize hzz : z.toNat = Z at *
      have HZZ := Lib.hid hzz; clear hzz
      go_wp2
      go_region
      go_wp2
      go_roundw
      case rel =>
        refine ⟨k + 1, by omega, by go_num, ?_, ?_, ?_, ?_⟩
        · rw [HS.out, List.map_set]
          unfold U64
          rw [HZZ.out]
          exact HS1.out.drew
        · exact (hB.out.setOther (a := ⟨w.heap.size, k, none⟩) (by simp) _).drew
        · exact (hR.out.setOther (a := ⟨w.heap.size, k, none⟩) (by simp; omega) _).drew
        · exact (hbel.out.setCell (p := ⟨w.heap.size, k, none⟩) (Nat.le_refl _) _).drew
      case measure => simp [intOf]; omega
    · obtain rfl : k = 5 := by omega
      have hsum : aIter n m 5 = [a.a + b.a, a.b + b.b, a.c + b.c, a.d + b.d, a.e + b.e] := by rw [← HLA.out, ← HLB.out]; rfl
      rw [hsum] at hA
      clear hsum
      generalize hp : a.a + b.a = p at *
      generalize hq : a.b + b.b = q at *
      generalize hr : a.c + b.c = r at *
      generalize hs : a.d + b.d = s at *
      generalize ht : a.e + b.e = t at *
      have HP := Lib.hid hp; have HQ := Lib.hid hq; have HRR := Lib.hid hr; have HSS := Lib.hid hs; have HT := Lib.hid ht
      clear hp hq hr hs ht
      have c0 := hA.out.at' 0 (by simp); have c1 := hA.out.at' 1 (by simp); have c2 := hA.out.at' 2 (by simp); have c3 := hA.out.at' 3 (by simp); have c4 := hA.out.at' 4 (by simp)
      have d0 := hR.out.at' 0 (by simp); have d1 := hR.out.at' 1 (by simp); have d2 := hR.out.at' 2 (by simp); have d3 := hR.out.at' 3 (by simp); have d4 := hR.out.at' 4 (by simp)
      have g := hR.out.froz
      simp only [List.map_cons, List.getElem_cons_zero, List.getElem_cons_succ, U64] at c0 c1 c2 c3 c4 d0 d1 d2 d3 d4
      have RR := Lib.hid (((((hR.out.set 0 (by simp) (.int .u64 (p.toNat : Int))).set 1 (by simp) (.int .u64 (q.toNat : Int))).set 2 (by simp) (.int .u64 (r.toNat : Int))).set 3 (by simp) (.int .u64 (s.toNat : Int))).set 4 (by simp) (.int .u64 (t.toNat : Int)))
      have BB := Lib.hid (((((hbel.out.setCell (p := ⟨w.heap.size + 1 + 1, 0, none⟩) (by simp; omega) (.int .u64 (p.toNat : Int))).setCell (p := ⟨w.heap.size + 1 + 1, 1, none⟩) (by simp; omega) (.int .u64 (q.toNat : Int))).setCell (p := ⟨w.heap.size + 1 + 1, 2, none⟩) (by simp; omega) (.int .u64 (r.toNat : Int))).setCell (p := ⟨w.heap.size + 1 + 1, 3, none⟩) (by simp; omega) (.int .u64 (s.toNat : Int))).setCell (p := ⟨w.heap.size + 1 + 1, 4, none⟩) (by simp; omega) (.int .u64 (t.toNat : Int)))
      go_wp2
      clear c0 c1 c2 c3 c4 d0 d1 d2 d3 d4
      have R2 := RR.out
      have e0 := R2.at' 0 (by simp); have e1 := R2.at' 1 (by simp); have e2 := R2.at' 2 (by simp); have e3 := R2.at' 3 (by simp); have e4 := R2.at' 4 (by simp)
      simp only [List.map_cons, List.map_nil, List.set_cons_zero, List.set_cons_succ, List.getElem_cons_zero, List.getElem_cons_succ] at e0 e1 e2 e3 e4
      refine bodyPost_ret (v := .agg #[.int .u64 (p.toNat : Int), .int .u64 (q.toNat : Int), .int .u64 (r.toNat : Int), .int .u64 (s.toNat : Int), .int .u64 (t.toNat : Int)]) (by simp [results, Try.results16, go_sem, e0, e1, e2, e3, e4]) rfl ⟨?_, BB.out⟩
      rw [HP.out, HQ.out, HRR.out, HSS.out, HT.out]
      rfl
end Go.Proofs.Ytlheepcojeaeaaa
