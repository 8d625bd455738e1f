/-
  Walks: a packet's kind; what one packet comes to; what all, or those from a name, do; whether packets are great.
-/
import Derived.Test.YthobmcpilfalgaaWb
namespace Go.Proofs.Ythobmcpilfalgaa
open Go.RowKit Go.Proofs.Ythobmcpilfalgaa.Plan Go.Proofs.Ythobmcpilfalgaa.Eager
set_option maxHeartbeats 2000000
set_option maxRecDepth 20000
set_option linter.unusedVariables false
set_option linter.unusedSimpArgs false

def kindOf (b : List UInt8) : Nat := match b with
  | [] => 0
  | x :: _ => if 1 ≤ x.toNat ∧ x.toNat ≤ 4 then x.toNat else 0
theorem kindOf_le (b : List UInt8) : kindOf b ≤ 4 := by
  unfold kindOf; split
  · omega
  · split <;> omega
theorem kind34 (w : World) (oa : Option Addr) (n c : Nat) (b : List UInt8) (h : Reads w oa n b) :
    Calls Try.prog 34 #[.slice oa n c] w fun r w' => r = .returned (.int .i64 (kindOf b : Nat)) ∧ w' = w := by
  cases b with
  | nil =>
    obtain rfl : n = 0 := h.len
    go_enter Try.func34, Try.ntmps34
    go_wp2
    refine bodyPost_ret (v := .int .i64 0) (by simp [results, Try.results34, go_sem]) rfl ⟨rfl, rfl⟩
  | cons x b =>
    obtain rfl : n = b.length + 1 := h.len
    obtain ⟨g, o, rfl, hlt, hc⟩ := h.cells.bytes (i := 0) (by simp)
    simp only [List.getElem_cons_zero, Nat.add_zero] at hc
    clear h
    have hn0 : ¬ ((b.length : Int) + 1 = 0) := by omega
    have hp : (0 : Int) < ((b.length + 1 : Nat) : Int) := by omega
    obtain ⟨v, hv⟩ : ∃ v, x.toNat = v := ⟨_, rfl⟩
    have HV : Hid (kindOf (x :: b) = if 1 ≤ v ∧ v ≤ 4 then v else 0) := by show _ = _; rw [← hv]; rfl
    have hv2 : v < 256 := by rw [← hv]; exact UInt8.toNat_lt x
    rw [hv] at hc
    clear hv
    have rw1 : IntKind.i64.wrap (v : Int) = (v : Int) := by rw [IntKind.wrap_i64]; omega
    by_cases h1 : v < 1
    · have h1' : (v : Int) < 1 := by omega
      go_enter Try.func34, Try.ntmps34
      go_wp2
      refine bodyPost_ret (v := .int .i64 0) (by simp [results, Try.results34, go_sem]) rfl ⟨by rw [HV.out, if_neg (by omega)]; rfl, rfl⟩
    · by_cases h4 : 4 < v
      · have h1' : ¬ (v : Int) < 1 := by omega
        have h4' : 4 < (v : Int) := by omega
        go_enter Try.func34, Try.ntmps34
        go_wp2
        refine bodyPost_ret (v := .int .i64 0) (by simp [results, Try.results34, go_sem]) rfl ⟨by rw [HV.out, if_neg (by omega)]; rfl, rfl⟩
      · have h1' : ¬ (v : Int) < 1 := by omega
        have h4' : ¬ 4 < (v : Int) := by omega
        go_enter Try.func34, Try.ntmps34
        go_wp2
        refine bodyPost_ret (v := .int .i64 (v : Int)) (by simp [results, Try.results34, go_sem]) rfl ⟨by rw [HV.out, if_pos (by omega)], rfl⟩
theorem kind35 (w : World) (oa : Option Addr) (n c : Nat) (b : List UInt8) (h : Reads w oa n b) :
    Calls Try.prog 35 #[.slice oa n c] w fun r w' => r = .returned (.int .i64 (kindOf b : Nat)) ∧ w' = w := by
  cases b with
  | nil =>
    obtain rfl : n = 0 := h.len
    go_enter Try.func35, Try.ntmps35
    go_wp2
    refine bodyPost_ret (v := .int .i64 0) (by simp [results, Try.results35, go_sem]) rfl ⟨rfl, rfl⟩
  | cons x b =>
    obtain rfl : n = b.length + 1 := h.len
    obtain ⟨g, o, rfl, hlt, hc⟩ := h.cells.bytes (i := 0) (by simp)
    simp only [List.getElem_cons_zero, Nat.add_zero] at hc
    clear h
    have hn0 : (0 : Int) < (b.length : Int) + 1 := by omega
    have hp : (0 : Int) < ((b.length + 1 : Nat) : Int) := by omega
    obtain ⟨v, hv⟩ : ∃ v, x.toNat = v := ⟨_, rfl⟩
    have HV : Hid (kindOf (x :: b) = if 1 ≤ v ∧ v ≤ 4 then v else 0) := by show _ = _; rw [← hv]; rfl
    have hv2 : v < 256 := by rw [← hv]; exact UInt8.toNat_lt x
    rw [hv] at hc
    clear hv
    have rw1 : IntKind.i64.wrap (v : Int) = (v : Int) := by rw [IntKind.wrap_i64]; omega
    by_cases h1 : v < 1
    · have h1' : ¬ 1 ≤ (v : Int) := by omega
      go_enter Try.func35, Try.ntmps35
      go_wp2
      refine bodyPost_ret (v := .int .i64 0) (by simp [results, Try.results35, go_sem]) rfl ⟨by rw [HV.out, if_neg (by omega)]; rfl, rfl⟩
    · by_cases h4 : 4 < v
      · have h1' : 1 ≤ (v : Int) := by omega
        have h4' : ¬ (v : Int) ≤ 4 := by omega
        go_enter Try.func35, Try.ntmps35
        go_wp2
        refine bodyPost_ret (v := .int .i64 0) (by simp [results, Try.results35, go_sem]) rfl ⟨by rw [HV.out, if_neg (by omega)]; rfl, rfl⟩
      · have h1' : 1 ≤ (v : Int) := by omega
        have h4' : (v : Int) ≤ 4 := by omega
        go_enter Try.func35, Try.ntmps35
        go_wp2
        refine bodyPost_ret (v := .int .i64 (v : Int)) (by simp [results, Try.results35, go_sem]) rfl ⟨by rw [HV.out, if_pos (by omega)], rfl⟩

def kindT (k : Nat) (n : Int) : Tal := ⟨if k = 1 then 1 else 0, if k = 2 then 1 else 0, if k = 3 then 1 else 0, if k = 4 then 1 else 0, if k = 0 then 1 else 0, n⟩
def oneT (p : Pk) : Tal := kindT (kindOf p.b) p.n
def tallyOf (l : List Pk) : Tal := l.foldl (fun t p => addT t (oneT p)) t0

theorem one27 (p : Pk) (w : World) (h : p.Ok w) : Calls Try.prog 27 #[.agg p.cells.toArray] w fun e w' => e = .returned (.agg (oneT p).cells.toArray) ∧ Below w.heap.size w w' := by
  obtain ⟨f, t, oa, n, c, b⟩ := p
  have hr := h.reads
  simp only at hr
  have HR := Lib.hid hr
  have HO : Hid (oneT ⟨f, t, oa, n, c, b⟩ = kindT (kindOf b) n) := rfl
  clear h hr
  simp only [Pk.cells]
  go_enter Try.func27, Try.ntmps27
  go_wp2_with fail
  refine (kind34 _ oa n c b (HR.out.below (by (with_reducible try refine Lib.hid ?_); (repeat (with_reducible first | assumption | exact Below.refl _ _ | apply Below.drew | apply Below.drewN' | apply Below.setCell | apply Below.alloc)) <;> (try simp [length_fillTo, length_turnTo]) <;> (try omega)))).mono ?_
  rintro r w1 ⟨rfl, rfl⟩
  have hk := kindOf_le b
  obtain ⟨k, hk'⟩ : ∃ k, kindOf b = k := ⟨_, rfl⟩
  rw [hk'] at hk HO ⊢
  clear hk' HR
  rcases (by omega : k = 0 ∨ k = 1 ∨ k = 2 ∨ k = 3 ∨ k = 4) with rfl | rfl | rfl | rfl | rfl
  all_goals go_wp2
  · refine bodyPost_ret (v := .agg (kindT 0 n).cells.toArray) (by simp [results, Try.results27, go_sem, kindT, Tal.cells]) rfl ⟨by rw [HO.out], by (with_reducible try refine Lib.hid ?_); (repeat (with_reducible first | assumption | exact Below.refl _ _ | apply Below.drew | apply Below.drewN' | apply Below.setCell | apply Below.alloc)) <;> (try simp [length_fillTo, length_turnTo]) <;> (try omega)⟩
  · refine bodyPost_ret (v := .agg (kindT 1 n).cells.toArray) (by simp [results, Try.results27, go_sem, kindT, Tal.cells]) rfl ⟨by rw [HO.out], by (with_reducible try refine Lib.hid ?_); (repeat (with_reducible first | assumption | exact Below.refl _ _ | apply Below.drew | apply Below.drewN' | apply Below.setCell | apply Below.alloc)) <;> (try simp [length_fillTo, length_turnTo]) <;> (try omega)⟩
  · refine bodyPost_ret (v := .agg (kindT 2 n).cells.toArray) (by simp [results, Try.results27, go_sem, kindT, Tal.cells]) rfl ⟨by rw [HO.out], by (with_reducible try refine Lib.hid ?_); (repeat (with_reducible first | assumption | exact Below.refl _ _ | apply Below.drew | apply Below.drewN' | apply Below.setCell | apply Below.alloc)) <;> (try simp [length_fillTo, length_turnTo]) <;> (try omega)⟩
  · refine bodyPost_ret (v := .agg (kindT 3 n).cells.toArray) (by simp [results, Try.results27, go_sem, kindT, Tal.cells]) rfl ⟨by rw [HO.out], by (with_reducible try refine Lib.hid ?_); (repeat (with_reducible first | assumption | exact Below.refl _ _ | apply Below.drew | apply Below.drewN' | apply Below.setCell | apply Below.alloc)) <;> (try simp [length_fillTo, length_turnTo]) <;> (try omega)⟩
  · refine bodyPost_ret (v := .agg (kindT 4 n).cells.toArray) (by simp [results, Try.results27, go_sem, kindT, Tal.cells]) rfl ⟨by rw [HO.out], by (with_reducible try refine Lib.hid ?_); (repeat (with_reducible first | assumption | exact Below.refl _ _ | apply Below.drew | apply Below.drewN' | apply Below.setCell | apply Below.alloc)) <;> (try simp [length_fillTo, length_turnTo]) <;> (try omega)⟩

def GreatOk (n : Nat) (e : Ending) : Prop := ∃ b, e = .returned (.bool b) ∧ (b = false → n ≤ 300)
theorem great6 (l : List Pk) (w : World) (oa : Option Addr) (n c : Nat) (h : Pks w oa n c l) :
    Calls Try.prog 6 #[.slice oa n c] w fun r w' => GreatOk l.length r ∧ Below w.heap.size w w' := by
  obtain rfl : n = l.length := h.rows.len
  have H := Lib.hid h; clear h
  by_cases hlen : 300 < l.length
  · have hlen' : (300 : Int) < (l.length : Int) := by omega
    clear hlen
    go_enter Try.func6, Try.ntmps6
    go_wp2
    refine bodyPost_ret (v := .bool true) (by simp [results, Try.results6, go_sem]) rfl ⟨⟨true, rfl, fun h => by simp at h⟩, Below.refl _ _⟩
  · have hlen' : ¬ (300 : Int) < (l.length : Int) := by omega
    have HLEN : Hid (l.length ≤ 300) := by show _ ≤ _; omega
    go_enter Try.func6, Try.ntmps6
    go_wp2
    clear hlen hlen'
    go_loopw [3, 4] (fun s i wr => ∃ (k : Nat) (t : Nat), k ≤ l.length ∧ i = .int .i64 k ∧ s = .int .i64 t ∧ t ≤ 100000 ∧ Hid (Below w.heap.size w wr)) (fun _ i _ => l.length - (intOf i).toNat)
    case atStart => exact ⟨0, 0, by omega, rfl, rfl, by omega, by (with_reducible try refine Lib.hid ?_); (repeat (with_reducible first | assumption | exact Below.refl _ _ | apply Below.drew | apply Below.drewN' | apply Below.setCell | apply Below.alloc)) <;> (try simp [length_fillTo, length_turnTo]) <;> (try omega)⟩
    case round =>
      obtain ⟨k, t, hk, rfl, rfl, ht, hbel⟩ := hrel
      by_cases hlt : k < l.length
      · have hi1 : (k : Int) < (l.length : Int) := by omega
        have rk : IntKind.i64.wrap ((k : Int) + 1) = ((k + 1 : Nat) : Int) := by
          have h1 := HLEN.out
          rw [IntKind.wrap_i64]; omega
        obtain ⟨b1, p1, rfl, hb1, e10, e11, e12⟩ := (H.out.rows.below hbel.out).pk hlt
        obtain ⟨q1, hq1'⟩ : ∃ q, l[k] = q := ⟨_, rfl⟩
        rw [hq1'] at e10 e11 e12
        clear hq1'
        obtain ⟨fr1, to1, oa1, m1, cc1, bs1⟩ := q1
        simp only at e10 e11 e12
        obtain ⟨x1, hx1⟩ : ∃ x, min m1 3000 = x := ⟨_, rfl⟩
        obtain ⟨x2, hx2⟩ : ∃ x, min fr1.size 3000 = x := ⟨_, rfl⟩
        obtain ⟨x3, hx3⟩ : ∃ x, min to1.size 3000 = x := ⟨_, rfl⟩
        obtain ⟨y1, hy1⟩ : ∃ y, x1 + x2 = y := ⟨_, rfl⟩
        obtain ⟨y2, hy2⟩ : ∃ y, y1 + x3 = y := ⟨_, rfl⟩
        obtain ⟨y3, hy3⟩ : ∃ y, t + y2 = y := ⟨_, rfl⟩
        have s1 : IntKind.i64.wrap ((x1 : Int) + (x2 : Int)) = (y1 : Int) := by rw [IntKind.wrap_i64]; omega
        have s2 : IntKind.i64.wrap ((y1 : Int) + (x3 : Int)) = (y2 : Int) := by rw [IntKind.wrap_i64]; omega
        have s3 : IntKind.i64.wrap ((t : Int) + (y2 : Int)) = (y3 : Int) := by rw [IntKind.wrap_i64]; omega
        have HY := Lib.hid (And.intro hy1 (And.intro hy2 hy3)); clear hy1 hy2 hy3
        go_wp2
        refine wp_region_plan none [] [] (.take 0 (.take 1 (.take 2 (.take 3 (.take 4 (.take 5 (.take 6 (.take 7 (.take 8 (.take 9 (.take 10 (.take 11 (.take 12 (.take 13 (.take 14 (.take 15 (.take 16 (.take 17 (.take 18 (.take 19 (.take 20 (.take 21 (.take 22 (.take 23 (.take 24 (.take 25 .done)))))))))))))))))))))))))) (by kernel_rfl) (by kernel_rfl) (fun _ _ dd _ _ h => by cases dd <;> exact h) ?_
        intro W0 hW0
        have f10 := cell_later e10 (below_drew wr); have f11 := cell_later e11 (below_drew wr); have f12 := cell_later e12 (below_drew wr)
        have hbel0 := hbel.out.drew
        rw [← hW0] at f10 f11 f12 hbel0
        clear hW0 e10 e11 e12
        (refine pl_take (d := 14) (v := ?_) rfl rfl rfl ?_ ?_; rotate_left; (focus ((intro w' hb0 hw'; go_simp) <;> with_reducible rfl)); simp only [Act.put, List.setIfInBounds_toArray, List.set_cons_zero, List.set_cons_succ])
        (refine pl_take (d := 15) (v := ?_) rfl rfl rfl ?_ ?_; rotate_left; (focus ((intro w' hb0 hw'; go_simp) <;> with_reducible rfl)); simp only [Act.put, List.setIfInBounds_toArray, List.set_cons_zero, List.set_cons_succ])
        (refine pl_take (d := 16) (v := ?_) rfl rfl rfl ?_ ?_; rotate_left; (focus ((intro w' hb0 hw'; go_simp) <;> with_reducible rfl)); simp only [Act.put, List.setIfInBounds_toArray, List.set_cons_zero, List.set_cons_succ])
        (refine pl_take (d := 17) (v := ?_) rfl rfl rfl ?_ ?_; rotate_left; (focus ((intro w' hb0 hw'; go_simp) <;> with_reducible rfl)); simp only [Act.put, List.setIfInBounds_toArray, List.set_cons_zero, List.set_cons_succ])
        (refine pl_take (d := 18) (v := ?_) rfl rfl rfl ?_ ?_; rotate_left; (focus ((intro w' hb0 hw'; go_simp) <;> with_reducible rfl)); simp only [Act.put, List.setIfInBounds_toArray, List.set_cons_zero, List.set_cons_succ])
        (refine pl_take (d := 19) (v := ?_) rfl rfl rfl ?_ ?_; rotate_left; (focus ((intro w' hb0 hw'; have hb9 : Below W0.heap.size W0 w' := hb0; have x := cell_later f12 hb9; go_simp) <;> with_reducible rfl)); simp only [Act.put, List.setIfInBounds_toArray, List.set_cons_zero, List.set_cons_succ])
        (refine pl_take (d := 20) (v := ?_) rfl rfl rfl ?_ ?_; rotate_left; (focus ((intro w' hb0 hw'; go_simp) <;> with_reducible rfl)); simp only [Act.put, List.setIfInBounds_toArray, List.set_cons_zero, List.set_cons_succ])
        refine pl_take (d := 21) (v := .int .i64 (x1 : Nat)) rfl rfl rfl ?_ ?_
        · intro w' hb0 hw'
          go_simp
          split <;> (try simp_all) <;> omega
        simp only [Act.put, List.setIfInBounds_toArray, List.set_cons_zero, List.set_cons_succ]
        (refine pl_take (d := 22) (v := ?_) rfl rfl rfl ?_ ?_; rotate_left; (focus ((intro w' hb0 hw'; go_simp) <;> with_reducible rfl)); simp only [Act.put, List.setIfInBounds_toArray, List.set_cons_zero, List.set_cons_succ])
        (refine pl_take (d := 23) (v := ?_) rfl rfl rfl ?_ ?_; rotate_left; (focus ((intro w' hb0 hw'; go_simp) <;> with_reducible rfl)); simp only [Act.put, List.setIfInBounds_toArray, List.set_cons_zero, List.set_cons_succ])
        (refine pl_take (d := 24) (v := ?_) rfl rfl rfl ?_ ?_; rotate_left; (focus ((intro w' hb0 hw'; go_simp) <;> with_reducible rfl)); simp only [Act.put, List.setIfInBounds_toArray, List.set_cons_zero, List.set_cons_succ])
        (refine pl_take (d := 25) (v := ?_) rfl rfl rfl ?_ ?_; rotate_left; (focus ((intro w' hb0 hw'; go_simp) <;> with_reducible rfl)); simp only [Act.put, List.setIfInBounds_toArray, List.set_cons_zero, List.set_cons_succ])
        (refine pl_take (d := 26) (v := ?_) rfl rfl rfl ?_ ?_; rotate_left; (focus ((intro w' hb0 hw'; have hb9 : Below W0.heap.size W0 w' := hb0; have x := cell_later f10 hb9; go_simp) <;> with_reducible rfl)); simp only [Act.put, List.setIfInBounds_toArray, List.set_cons_zero, List.set_cons_succ])
        (refine pl_take (d := 27) (v := ?_) rfl rfl rfl ?_ ?_; rotate_left; (focus ((intro w' hb0 hw'; go_simp) <;> with_reducible rfl)); simp only [Act.put, List.setIfInBounds_toArray, List.set_cons_zero, List.set_cons_succ])
        refine pl_take (d := 28) (v := .int .i64 (x2 : Nat)) rfl rfl rfl ?_ ?_
        · intro w' hb0 hw'
          go_simp
          split <;> (try simp_all) <;> omega
        simp only [Act.put, List.setIfInBounds_toArray, List.set_cons_zero, List.set_cons_succ]
        (refine pl_take (d := 29) (v := ?_) rfl rfl rfl ?_ ?_; rotate_left; (focus ((intro w' hb0 hw'; go_simp) <;> with_reducible rfl)); simp only [Act.put, List.setIfInBounds_toArray, List.set_cons_zero, List.set_cons_succ])
        (refine pl_take (d := 30) (v := ?_) rfl rfl rfl ?_ ?_; rotate_left; (focus ((intro w' hb0 hw'; go_simp) <;> with_reducible rfl)); simp only [Act.put, List.setIfInBounds_toArray, List.set_cons_zero, List.set_cons_succ])
        (refine pl_take (d := 31) (v := ?_) rfl rfl rfl ?_ ?_; rotate_left; (focus ((intro w' hb0 hw'; go_simp) <;> with_reducible rfl)); simp only [Act.put, List.setIfInBounds_toArray, List.set_cons_zero, List.set_cons_succ])
        (refine pl_take (d := 32) (v := ?_) rfl rfl rfl ?_ ?_; rotate_left; (focus ((intro w' hb0 hw'; go_simp) <;> with_reducible rfl)); simp only [Act.put, List.setIfInBounds_toArray, List.set_cons_zero, List.set_cons_succ])
        (refine pl_take (d := 33) (v := ?_) rfl rfl rfl ?_ ?_; rotate_left; (focus ((intro w' hb0 hw'; go_simp) <;> with_reducible rfl)); simp only [Act.put, List.setIfInBounds_toArray, List.set_cons_zero, List.set_cons_succ])
        (refine pl_take (d := 34) (v := ?_) rfl rfl rfl ?_ ?_; rotate_left; (focus ((intro w' hb0 hw'; have hb9 : Below W0.heap.size W0 w' := hb0; have x := cell_later f11 hb9; go_simp) <;> with_reducible rfl)); simp only [Act.put, List.setIfInBounds_toArray, List.set_cons_zero, List.set_cons_succ])
        (refine pl_take (d := 35) (v := ?_) rfl rfl rfl ?_ ?_; rotate_left; (focus ((intro w' hb0 hw'; go_simp) <;> with_reducible rfl)); simp only [Act.put, List.setIfInBounds_toArray, List.set_cons_zero, List.set_cons_succ])
        refine pl_take (d := 36) (v := .int .i64 (x3 : Nat)) rfl rfl rfl ?_ ?_
        · intro w' hb0 hw'
          go_simp
          split <;> (try simp_all) <;> omega
        simp only [Act.put, List.setIfInBounds_toArray, List.set_cons_zero, List.set_cons_succ]
        (refine pl_take (d := 37) (v := ?_) rfl rfl rfl ?_ ?_; rotate_left; (focus ((intro w' hb0 hw'; go_simp) <;> with_reducible rfl)); simp only [Act.put, List.setIfInBounds_toArray, List.set_cons_zero, List.set_cons_succ])
        (refine pl_take (d := 38) (v := ?_) rfl rfl rfl ?_ ?_; rotate_left; (focus ((intro w' hb0 hw'; go_simp) <;> with_reducible rfl)); simp only [Act.put, List.setIfInBounds_toArray, List.set_cons_zero, List.set_cons_succ])
        (refine pl_take (d := 3) (v := ?_) rfl rfl rfl ?_ ?_; rotate_left; (focus ((intro w' hb0 hw'; go_simp) <;> with_reducible rfl)); simp only [Act.put, List.setIfInBounds_toArray, List.set_cons_zero, List.set_cons_succ])
        refine pl_end ?_
        by_cases hbig : 100000 < y3
        · have hbig' : (100000 : Int) < (y3 : Int) := by omega
          clear hbig hx1 hx2 hx3
          go_wp2
          refine bodyPost_ret (v := .bool true) (by simp [results, Try.results6, go_sem]) rfl ⟨⟨true, rfl, fun h => by simp at h⟩, hbel0⟩
        · have hbig' : ¬ (100000 : Int) < (y3 : Int) := by omega
          have HB : Hid (y3 ≤ 100000) := by show _ ≤ _; omega
          clear hbig hx1 hx2 hx3
          go_wp2
          go_roundw
          case measure => (simp [intOf]) <;> omega
          case rel => exact ⟨k + 1, y3, by omega, rfl, rfl, HB, Lib.hid hbel0⟩
      · obtain rfl : k = l.length := by omega
        have hb1 := hbel.out
        go_wp2
        refine bodyPost_ret (v := .bool false) (by simp [results, Try.results6, go_sem]) rfl ⟨⟨false, rfl, fun _ => HLEN⟩, hb1⟩

theorem of11 (l : List Pk) (w : World) (oa : Option Addr) (n c : Nat) (h : Pks w oa n c l) (hl : l.length ≤ 900) :
    Calls Try.prog 11 #[.slice oa n c] w fun e w' => e = .returned (.agg (tallyOf l).cells.toArray) ∧ Below w.heap.size w w' := by
  obtain rfl : n = l.length := h.rows.len
  have H := Lib.hid h; have HL := Lib.hid hl; clear h hl
  have hbb : Below w.heap.size w ((w.alloc (.cells t0.cells.toArray 33)).alloc (.cells t0.cells.toArray 33)) := by (with_reducible try refine Lib.hid ?_); (repeat (with_reducible first | assumption | exact Below.refl _ _ | apply Below.drew | apply Below.drewN' | apply Below.setCell | apply Below.alloc)) <;> (try simp [length_fillTo, length_turnTo]) <;> (try omega)
  have hX : Blk ((w.alloc (.cells t0.cells.toArray 33)).alloc (.cells t0.cells.toArray 33)) w.heap.size t0.cells := Blk.alloc (Blk.new' rfl) _
  have hY : Blk ((w.alloc (.cells t0.cells.toArray 33)).alloc (.cells t0.cells.toArray 33)) (w.heap.size + 1) t0.cells := Blk.new' (by simp)
  have HBB := Lib.hid hbb; have HX := Lib.hid hX; have HY := Lib.hid hY; clear hbb hX hY
  go_enter Try.func11, Try.ntmps11
  go_wp2
  go_loopw [5, 8] (fun _ i wr => ∃ k : Nat, k ≤ l.length ∧ i = .int .i64 k ∧ Hid (Blk wr (w.heap.size + 1) (tallyOf (l.take k)).cells) ∧ Hid (Blk wr w.heap.size t0.cells) ∧ Hid (Below w.heap.size w wr)) (fun _ i _ => l.length - (intOf i).toNat)
  case atStart => exact ⟨0, by omega, rfl, HY, HX, HBB⟩
  case round =>
    obtain ⟨k, hk, rfl, hT, hR, hB⟩ := hrel
    by_cases hlt : k < l.length
    · have hi1 : (k : Int) < (l.length : Int) := by omega
      have rk : IntKind.i64.wrap ((k : Int) + 1) = ((k + 1 : Nat) : Int) := by
        have h1 := HL.out
        rw [IntKind.wrap_i64]; omega
      have HT : Hid (tallyOf (l.take (k + 1)) = addT (tallyOf (l.take k)) (oneT l[k])) := by
        show _ = _
        rw [List.take_succ_eq_append_getElem hlt]; unfold tallyOf; rw [List.foldl_append]; rfl
      obtain ⟨b1, p1, rfl, hb1, e0, e1, e2⟩ := (H.out.rows.below hB.out).pk hlt
      have hOK : Hid (l[k].Ok wr) := (H.out.below hB.out).ok _ (List.getElem_mem hlt)
      obtain ⟨p, hp⟩ : ∃ q, l[k] = q := ⟨_, rfl⟩
      rw [hp] at e0 e1 e2 HT hOK
      clear hp
      obtain ⟨t, ht⟩ : ∃ t, tallyOf (l.take k) = t := ⟨_, rfl⟩
      rw [ht] at hT HT
      clear ht
      obtain ⟨wA, rfl⟩ : ∃ x, x = wr := ⟨_, rfl⟩
      have hal : Below wA.heap.size wA (wA.alloc (.cells p.cells.toArray 51)) := (Below.refl _ _).alloc (Nat.le_refl _) _
      have hP : Hid (Blk (wA.alloc (.cells p.cells.toArray 51)) wA.heap.size p.cells) := Blk.new' rfl
      replace hT := Lib.hid (hT.out.later hal); replace hR := Lib.hid (hR.out.later hal); replace hB := Lib.hid (below_step hB.out hal); replace hOK := Lib.hid (hOK.out.below hal)
      clear hal
      go_wp2_with fail
      refine wp_region_plan none [4] [] (.take 0 (.take 1 (.one 2 (.one 3 (.tail [4]))))) (by kernel_rfl) (by kernel_rfl) (fun _ _ dd _ _ h => by cases dd <;> exact h) ?_
      intro W0 hW0
      have hT0 : Blk W0 (w.heap.size + 1) t.cells := by rw [hW0]; exact hT.out.drew
      have hR0 : Blk W0 w.heap.size t0.cells := by rw [hW0]; exact hR.out.drew
      have hP0 : Blk W0 wA.heap.size p.cells := by rw [hW0]; exact hP.out.drew
      have hp0 : p.Ok W0 := by rw [hW0]; exact hOK.out.below (below_drew _)
      have hbW : Below w.heap.size w W0 := by rw [hW0]; exact hB.out.drew
      clear hW0
      (refine pl_take (d := 12) (v := ?_) rfl rfl rfl ?_ ?_; rotate_left; (focus ((intro w' hb0 hw'; have hc := hT0.later hw'; have c0 := hc.at' 0 (by simp [Tal.cells]); have c1 := hc.at' 1 (by simp [Tal.cells]); have c2 := hc.at' 2 (by simp [Tal.cells]); have c3 := hc.at' 3 (by simp [Tal.cells]); have c4 := hc.at' 4 (by simp [Tal.cells]); have c5 := hc.at' 5 (by simp [Tal.cells]); simp only [Tal.cells, List.getElem_cons_succ, List.getElem_cons_zero] at c0 c1 c2 c3 c4 c5; go_simp) <;> with_reducible rfl)); simp only [Act.put, List.setIfInBounds_toArray, List.set_cons_zero, List.set_cons_succ])
      (refine pl_take (d := 13) (v := ?_) rfl rfl rfl ?_ ?_; rotate_left; (focus ((intro w' hb0 hw'; have hc := hP0.later hw'; have c0 := hc.at' 0 (by simp [Pk.cells]); have c1 := hc.at' 1 (by simp [Pk.cells]); have c2 := hc.at' 2 (by simp [Pk.cells]); simp only [Pk.cells, List.getElem_cons_succ, List.getElem_cons_zero] at c0 c1 c2; go_simp) <;> with_reducible rfl)); simp only [Act.put, List.setIfInBounds_toArray, List.set_cons_zero, List.set_cons_succ])
      refine pl_one rfl rfl (fun K hK => ?_)
      go_simp
      refine (one27 p W0 hp0).mono ?_
      rintro r W1 ⟨rfl, hbk⟩
      refine hK _ _ (hbk : Rel none W0 W1) ?_
      clear hK
      replace hT0 := hT0.later hbk; replace hR0 := hR0.later hbk; replace hbW := below_step hbW hbk
      clear hbk
      refine pl_one rfl rfl (fun K hK => ?_)
      go_simp
      refine (add19 t (oneT p) W1).mono ?_
      rintro r W2 ⟨rfl, hbk⟩
      refine hK _ _ (hbk : Rel none W1 W2) ?_
      clear hK
      replace hT0 := hT0.later hbk; replace hR0 := hR0.later hbk; replace hbW := below_step hbW hbk
      clear hbk
      refine pl_tail ?_
      refine tl_do rfl rfl (fun K hK => ?_)
      refine wp_store_blk rfl hT0 (by rfl) (vs := (addT t (oneT p)).cells) (by rfl) row33 rfl (by simp [Tal.cells, Value.oneCell']) ?_
      intro W5 hT5 hg
      have hR5 := hR0.grown hg (by simp)
      have hb5 := Below.grownB hbW hg (by simp) hbW.size
      have HT5 := Lib.hid hT5; have HR5 := Lib.hid hR5; have HB5 := Lib.hid hb5
      refine hK _ _ ?_
      clear hK hT5 hR5 hb5 hg hT0 hR0 hbW
      (try simp only [Act.put, List.setIfInBounds_toArray, List.set_cons_zero, List.set_cons_succ])
      refine tl_end ?_
      go_wp2_with fail
      go_roundw
      case measure => (simp [intOf]) <;> omega
      case rel => exact ⟨k + 1, by omega, rfl, Lib.hid (by rw [HT.out]; exact HT5.out), HR5, HB5⟩
    · obtain rfl : k = l.length := by omega
      rw [List.take_length] at hT
      obtain ⟨t, ht⟩ : ∃ t, tallyOf l = t := ⟨_, rfl⟩
      rw [ht] at hT
      have HTT := Lib.hid ht
      clear ht
      have c0 := hT.out.at' 0 (by simp [Tal.cells]); have c1 := hT.out.at' 1 (by simp [Tal.cells]); have c2 := hT.out.at' 2 (by simp [Tal.cells]); have c3 := hT.out.at' 3 (by simp [Tal.cells]); have c4 := hT.out.at' 4 (by simp [Tal.cells]); have c5 := hT.out.at' 5 (by simp [Tal.cells])
      simp only [Tal.cells, List.getElem_cons_succ, List.getElem_cons_zero] at c0 c1 c2 c3 c4 c5
      go_wp2_with (refine stop_store (ty := 33) rfl ?_)
      refine ⟨wpList_store_blk rfl rfl hR.out (by rfl) (vs := t.cells) (by rfl) row33 rfl (by simp [Tal.cells, Value.oneCell']) ?_⟩
      intro W5 hR5 hg5
      have hb5 := Below.grownB hB.out hg5 (by omega) hB.out.size
      have HR5 := Lib.hid hR5; have HB5 := Lib.hid hb5; clear hR5 hb5 hg5 hR hB c0 c1 c2 c3 c4 c5
      go_wp2
      exact ret_blk (b := w.heap.size) rfl (by rfl) HR5.out row33 rfl ⟨by rw [HTT.out], HB5.out⟩

theorem from13 (l : List Pk) (name : ByteArray) (w : World) (oa : Option Addr) (n c : Nat) (h : Pks w oa n c l) (hl : l.length ≤ 900) :
    Calls Try.prog 13 #[.slice oa n c, .string name] w fun e w' => e = .returned (.agg (tallyOf (l.filter fun p => decide (p.frm = name))).cells.toArray) ∧ Below w.heap.size w w' := by
  obtain rfl : n = l.length := h.rows.len
  have H := Lib.hid h; have HL := Lib.hid hl; clear h hl
  have hbb : Below w.heap.size w ((w.alloc (.cells t0.cells.toArray 33)).alloc (.cells t0.cells.toArray 33)) := by (with_reducible try refine Lib.hid ?_); (repeat (with_reducible first | assumption | exact Below.refl _ _ | apply Below.drew | apply Below.drewN' | apply Below.setCell | apply Below.alloc)) <;> (try simp [length_fillTo, length_turnTo]) <;> (try omega)
  have hX : Blk ((w.alloc (.cells t0.cells.toArray 33)).alloc (.cells t0.cells.toArray 33)) w.heap.size t0.cells := Blk.alloc (Blk.new' rfl) _
  have hY : Blk ((w.alloc (.cells t0.cells.toArray 33)).alloc (.cells t0.cells.toArray 33)) (w.heap.size + 1) t0.cells := Blk.new' (by simp)
  have HBB := Lib.hid hbb; have HX := Lib.hid hX; have HY := Lib.hid hY; clear hbb hX hY
  go_enter Try.func13, Try.ntmps13
  go_wp2
  go_loopw [7, 10] (fun _ i wr => ∃ k : Nat, k ≤ l.length ∧ i = .int .i64 k ∧ Hid (Blk wr (w.heap.size + 1) (tallyOf ((l.take k).filter fun p => decide (p.frm = name))).cells) ∧ Hid (Blk wr w.heap.size t0.cells) ∧ Hid (Below w.heap.size w wr)) (fun _ i _ => l.length - (intOf i).toNat)
  case atStart => exact ⟨0, by omega, rfl, HY, HX, HBB⟩
  case round =>
    obtain ⟨k, hk, rfl, hT, hR, hB⟩ := hrel
    by_cases hlt : k < l.length
    · have hi1 : (k : Int) < (l.length : Int) := by omega
      have rk : IntKind.i64.wrap ((k : Int) + 1) = ((k + 1 : Nat) : Int) := by
        have h1 := HL.out
        rw [IntKind.wrap_i64]; omega
      have HT : Hid (tallyOf ((l.take (k + 1)).filter fun p => decide (p.frm = name)) = if l[k].frm = name then addT (tallyOf ((l.take k).filter fun p => decide (p.frm = name))) (oneT l[k]) else tallyOf ((l.take k).filter fun p => decide (p.frm = name))) := by
        show _ = _
        rw [List.take_succ_eq_append_getElem hlt, List.filter_append]; unfold tallyOf; rw [List.foldl_append]; by_cases hh : l[k].frm = name <;> simp [hh]
      obtain ⟨b1, p1, rfl, hb1, e0, e1, e2⟩ := (H.out.rows.below hB.out).pk hlt
      have hOK : Hid (l[k].Ok wr) := (H.out.below hB.out).ok _ (List.getElem_mem hlt)
      obtain ⟨p, hp⟩ : ∃ q, l[k] = q := ⟨_, rfl⟩
      rw [hp] at e0 e1 e2 HT hOK
      clear hp
      obtain ⟨t, ht⟩ : ∃ t, tallyOf ((l.take k).filter fun p => decide (p.frm = name)) = t := ⟨_, rfl⟩
      rw [ht] at hT HT
      clear ht
      obtain ⟨wA, rfl⟩ : ∃ x, x = wr := ⟨_, rfl⟩
      have hal : Below wA.heap.size wA (wA.alloc (.cells p.cells.toArray 51)) := (Below.refl _ _).alloc (Nat.le_refl _) _
      have hP : Hid (Blk (wA.alloc (.cells p.cells.toArray 51)) wA.heap.size p.cells) := Blk.new' rfl
      replace hT := Lib.hid (hT.out.later hal); replace hR := Lib.hid (hR.out.later hal); replace hB := Lib.hid (below_step hB.out hal); replace hOK := Lib.hid (hOK.out.below hal)
      clear hal
      by_cases he : p.frm = name
      · rw [if_pos he] at HT
        have heq : (p.frm.toList == name.toList) = true := by rw [strbeq, he]; simp
        clear he
        go_wp2_with fail
        refine wp_region_plan none [4] [] (.take 0 (.take 1 (.one 2 (.one 3 (.tail [4]))))) (by kernel_rfl) (by kernel_rfl) (fun _ _ dd _ _ h => by cases dd <;> exact h) ?_
        intro W0 hW0
        have hT0 : Blk W0 (w.heap.size + 1) t.cells := by rw [hW0]; exact hT.out.drew
        have hR0 : Blk W0 w.heap.size t0.cells := by rw [hW0]; exact hR.out.drew
        have hP0 : Blk W0 wA.heap.size p.cells := by rw [hW0]; exact hP.out.drew
        have hp0 : p.Ok W0 := by rw [hW0]; exact hOK.out.below (below_drew _)
        have hbW : Below w.heap.size w W0 := by rw [hW0]; exact hB.out.drew
        clear hW0
        (refine pl_take (d := 18) (v := ?_) rfl rfl rfl ?_ ?_; rotate_left; (focus ((intro w' hb0 hw'; have hc := hT0.later hw'; have c0 := hc.at' 0 (by simp [Tal.cells]); have c1 := hc.at' 1 (by simp [Tal.cells]); have c2 := hc.at' 2 (by simp [Tal.cells]); have c3 := hc.at' 3 (by simp [Tal.cells]); have c4 := hc.at' 4 (by simp [Tal.cells]); have c5 := hc.at' 5 (by simp [Tal.cells]); simp only [Tal.cells, List.getElem_cons_succ, List.getElem_cons_zero] at c0 c1 c2 c3 c4 c5; go_simp) <;> with_reducible rfl)); simp only [Act.put, List.setIfInBounds_toArray, List.set_cons_zero, List.set_cons_succ])
        (refine pl_take (d := 19) (v := ?_) rfl rfl rfl ?_ ?_; rotate_left; (focus ((intro w' hb0 hw'; have hc := hP0.later hw'; have c0 := hc.at' 0 (by simp [Pk.cells]); have c1 := hc.at' 1 (by simp [Pk.cells]); have c2 := hc.at' 2 (by simp [Pk.cells]); simp only [Pk.cells, List.getElem_cons_succ, List.getElem_cons_zero] at c0 c1 c2; go_simp) <;> with_reducible rfl)); simp only [Act.put, List.setIfInBounds_toArray, List.set_cons_zero, List.set_cons_succ])
        refine pl_one rfl rfl (fun K hK => ?_)
        go_simp
        refine (one27 p W0 hp0).mono ?_
        rintro r W1 ⟨rfl, hbk⟩
        refine hK _ _ (hbk : Rel none W0 W1) ?_
        clear hK
        replace hT0 := hT0.later hbk; replace hR0 := hR0.later hbk; replace hbW := below_step hbW hbk
        clear hbk
        refine pl_one rfl rfl (fun K hK => ?_)
        go_simp
        refine (add19 t (oneT p) W1).mono ?_
        rintro r W2 ⟨rfl, hbk⟩
        refine hK _ _ (hbk : Rel none W1 W2) ?_
        clear hK
        replace hT0 := hT0.later hbk; replace hR0 := hR0.later hbk; replace hbW := below_step hbW hbk
        clear hbk
        refine pl_tail ?_
        refine tl_do rfl rfl (fun K hK => ?_)
        refine wp_store_blk rfl hT0 (by rfl) (vs := (addT t (oneT p)).cells) (by rfl) row33 rfl (by simp [Tal.cells, Value.oneCell']) ?_
        intro W5 hT5 hg
        have hR5 := hR0.grown hg (by simp)
        have hb5 := Below.grownB hbW hg (by simp) hbW.size
        have HT5 := Lib.hid hT5; have HR5 := Lib.hid hR5; have HB5 := Lib.hid hb5
        refine hK _ _ ?_
        clear hK hT5 hR5 hb5 hg hT0 hR0 hbW
        (try simp only [Act.put, List.setIfInBounds_toArray, List.set_cons_zero, List.set_cons_succ])
        refine tl_end ?_
        go_wp2_with fail
        go_roundw
        case measure => (simp [intOf]) <;> omega
        case rel => exact ⟨k + 1, by omega, rfl, Lib.hid (by rw [HT.out]; exact HT5.out), HR5, HB5⟩
      · rw [if_neg he] at HT
        have hne := strne he
        clear he
        go_wp2_with fail
        go_roundw
        case measure => (simp [intOf]) <;> omega
        case rel => exact ⟨k + 1, by omega, rfl, Lib.hid (by rw [HT.out]; exact hT.out), hR, hB⟩
    · obtain rfl : k = l.length := by omega
      rw [List.take_length] at hT
      obtain ⟨t, ht⟩ : ∃ t, tallyOf (l.filter fun p => decide (p.frm = name)) = t := ⟨_, rfl⟩
      rw [ht] at hT
      have HTT := Lib.hid ht
      clear ht
      have c0 := hT.out.at' 0 (by simp [Tal.cells]); have c1 := hT.out.at' 1 (by simp [Tal.cells]); have c2 := hT.out.at' 2 (by simp [Tal.cells]); have c3 := hT.out.at' 3 (by simp [Tal.cells]); have c4 := hT.out.at' 4 (by simp [Tal.cells]); have c5 := hT.out.at' 5 (by simp [Tal.cells])
      simp only [Tal.cells, List.getElem_cons_succ, List.getElem_cons_zero] at c0 c1 c2 c3 c4 c5
      go_wp2_with (refine stop_store (ty := 33) rfl ?_)
      refine ⟨wpList_store_blk rfl rfl hR.out (by rfl) (vs := t.cells) (by rfl) row33 rfl (by simp [Tal.cells, Value.oneCell']) ?_⟩
      intro W5 hR5 hg5
      have hb5 := Below.grownB hB.out hg5 (by omega) hB.out.size
      have HR5 := Lib.hid hR5; have HB5 := Lib.hid hb5; clear hR5 hb5 hg5 hR hB c0 c1 c2 c3 c4 c5
      go_wp2
      exact ret_blk (b := w.heap.size) rfl (by rfl) HR5.out row33 rfl ⟨by rw [HTT.out], HB5.out⟩
end Go.Proofs.Ythobmcpilfalgaa
