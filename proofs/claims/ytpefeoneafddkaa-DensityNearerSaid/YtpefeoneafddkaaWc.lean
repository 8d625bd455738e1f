/-
  Walks: products as lists of digits, and which one is above another one.
-/
import Derived.Test.YtpefeoneafddkaaWb
namespace Go.Proofs.Ytpefeoneafddkaa
open Go.RowKit Go.Proofs.Ytpefeoneafddkaa.Eager
set_option maxHeartbeats 400000
set_option linter.unusedVariables false
set_option linter.unusedSimpArgs false

theorem Try.info22 : (Try.prog.info? 22).map (fun i => (i.zero, i.size, i.bytes)) = some (some (.int .u64 0), 1, 8) := by kernel_rfl

/-- what is carried behind so many digits -/
def carried (n k i : Nat) : Nat := n % 65536 ^ i * k / 65536 ^ i

theorem carried_zero (n k : Nat) : carried n k 0 = 0 := by simp [carried, Nat.mod_one]

theorem carried_le (n k i : Nat) : carried n k i ≤ k := by
  unfold carried
  have hm : 0 < 65536 ^ i := Nat.pow_pos (by omega)
  have h1 : n % 65536 ^ i ≤ 65536 ^ i := Nat.le_of_lt (Nat.mod_lt _ hm)
  have h2 : n % 65536 ^ i * k ≤ k * 65536 ^ i := by rw [Nat.mul_comm k]; exact Nat.mul_le_mul_right k h1
  calc n % 65536 ^ i * k / 65536 ^ i ≤ k * 65536 ^ i / 65536 ^ i := Nat.div_le_div_right h2
    _ = k := Nat.mul_div_cancel k hm

theorem carried_digit (n k i : Nat) : (carried n k i + n / 65536 ^ i % 65536 * k) % 65536 = n * k / 65536 ^ i % 65536 := by
  unfold carried
  have hm : 0 < 65536 ^ i := Nat.pow_pos (by omega)
  generalize 65536 ^ i = m at *
  have e1 : n * k = n % m * k + n / m * k * m := by
    have h : n = n % m + n / m * m := by rw [Nat.mod_add_div' n m]
    conv => lhs; rw [h]
    rw [Nat.add_mul, Nat.mul_right_comm]
  rw [e1, Nat.add_mul_div_right _ _ hm]
  have e2 : n / m * k = n / m % 65536 * k + n / m / 65536 * k * 65536 := by
    have h : n / m = n / m % 65536 + n / m / 65536 * 65536 := by omega
    conv => lhs; rw [h]
    rw [Nat.add_mul, Nat.mul_right_comm]
  rw [e2, ← Nat.add_assoc, Nat.add_mul_mod_self_right]

theorem carried_succ (n k i : Nat) : (carried n k i + n / 65536 ^ i % 65536 * k) / 65536 = carried n k (i + 1) := by
  unfold carried
  have hm : 0 < 65536 ^ i := Nat.pow_pos (by omega)
  rw [Nat.pow_succ]
  generalize 65536 ^ i = m at *
  rw [Nat.mod_mul, Nat.add_mul, ← Nat.div_div_eq_div_mul]
  have e : m * (n / m % 65536) * k = n / m % 65536 * k * m := by rw [Nat.mul_assoc, Nat.mul_comm]
  rw [e, Nat.add_mul_div_right _ _ hm]

/-- the first digits of a number, the lowest first -/
def digits (N i : Nat) : List Value := (List.range i).map fun j => .int .u64 ((N / 65536 ^ j % 65536 : Nat) : Int)

theorem digits_succ (N i : Nat) : digits N (i + 1) = digits N i ++ [.int .u64 ((N / 65536 ^ i % 65536 : Nat) : Int)] := by
  simp [digits, List.range_succ]

theorem product14 (n k : Nat) (w : World) (hk : k ≤ 64) (hN : Hid (n < 18446744073709551616)) :
    Calls Try.prog 14 #[.int .u64 (n : Int), .int .i64 (k : Int)] w (RowOut w (digits (n * k) 6)) := by
  obtain ⟨i22, hi, hz0, hz1, hz2⟩ := info_parts Try.info22
  go_enter Try.func14, Try.ntmps14
  go_wp2
  go_loopw [0, 5, 6, 7] (fun q v o i wr => ∃ j : Nat, j ≤ 6 ∧ i = .int .i64 j ∧ q = .int .u64 ((n / 65536 ^ j : Nat) : Int) ∧ o = .int .u64 ((carried n k j : Nat) : Int) ∧ wr.ownsRow w.heap.size 22 1 v j (digits (n * k) j) ∧ Below w.heap.size w wr)
    (fun _ _ _ i _ => 6 - (intOf i).toNat)
  case atStart => exact ⟨0, by omega, rfl, by simp, by rw [carried_zero]; rfl, World.ownsRow_nil _ _ _ _, Below.refl _ _⟩
  case round =>
    obtain ⟨j, hj, rfl, rfl, rfl, hown, hbel⟩ := hrel
    by_cases hlt : j < 6
    · have h1 := carried_digit n k j
      have h2 := carried_succ n k j
      have h3 := carried_le n k j
      have h4 : n / 65536 ^ j / 65536 = n / 65536 ^ (j + 1) := by rw [Nat.pow_succ, Nat.div_div_eq_div_mul]
      have HD : Hid (digits (n * k) (j + 1) = digits (n * k) j ++ [.int .u64 (((carried n k j + n / 65536 ^ j % 65536 * k) % 65536 : Nat) : Int)]) := by
        show _ = _
        rw [h1, digits_succ]
      have HC := Lib.hid h2; have HQ := Lib.hid h4
      clear h1 h2 h4
      have hb1 : n / 65536 ^ j % 65536 * k ≤ 65535 * 64 := Nat.mul_le_mul (by omega) hk
      have HQL : Hid (n / 65536 ^ j < 18446744073709551616) := Nat.lt_of_le_of_lt (Nat.div_le_self _ _) hN.out
      generalize n / 65536 ^ j = q at *
      generalize carried n k j = o at *
      have hw1 : IntKind.u64.wrap ((q : Int) % 65536 * (k : Int)) = ((q % 65536 * k : Nat) : Int) := by
        rw [IntKind.wrap_u64]
        have e : (q : Int) % 65536 * (k : Int) = ((q % 65536 * k : Nat) : Int) := by simp
        rw [e]; omega
      have hw2 : IntKind.u64.wrap ((o : Int) + ((q % 65536 * k : Nat) : Int)) = ((o + q % 65536 * k : Nat) : Int) := by
        rw [IntKind.wrap_u64]; omega
      have hw4 : IntKind.u64.wrap ((q : Int) / 65536) = (q : Int) / 65536 := by
        have := HQL.out
        rw [IntKind.wrap_u64]; omega
      have hw5 : IntKind.u64.wrap (((o + q % 65536 * k : Nat) : Int) / 65536) = ((o + q % 65536 * k : Nat) : Int) / 65536 := by
        rw [IntKind.wrap_u64]; omega
      have hw3 : IntKind.u64.wrap (k : Int) = (k : Int) := by rw [IntKind.wrap_u64]; omega
      generalize q % 65536 * k = m at *
      generalize o + m = t at *
      have HOW := Lib.hid hown; have HBE := Lib.hid hbel
      clear hown hbel
      have hcast : ((t % 65536 : Nat) : Int) = (t : Int) % 65536 := by omega
      rw [hcast] at HD
      clear hcast
      go_wp2_with (at_builtin; refine wpList_append_own _ rfl (.tmp 19) (.tmp 22) 38 rfl w.heap.size 22 i22 (.int .u64 0) 1 8 Try.underlying38 hi hz0 hz1 hz2 rfl (by omega) _ j (digits (n * k) j) rfl (HOW.out.alloc _) ⟨wr.heap.size, 0, none⟩ 1 1 [.int .u64 ((t : Int) % 65536)] rfl rfl (World.news_of_block (cs := #[.int .u64 ((t : Int) % 65536)]) (t := 22) (fr := (0, 0)) (heap_alloc_new _ _)) (by simp [Value.oneCell']) (by simp only [maxLen]; omega) (by omega) (by have := HBE.out.size; simp; omega) ?_)
      intro v' w1 hown1 hgrow _
      rw [← HD.out] at hown1
      have HB2 : Hid (Below w.heap.size w w1) := by
        refine (HBE.out.alloc (by exact HBE.out.size) _).grown hgrow (by have := HBE.out.size; simp; omega) ?_
        intro g hg
        exact (HOW.out.lt _ hg).1
      have HO := Lib.hid hown1; clear hown1 hgrow
      go_wp2
      go_roundw
      case rel => exact ⟨j + 1, by omega, by go_num, congrArg _ (by rw [← HQ.out]; omega), congrArg _ (by rw [← HC.out]; omega), HO.out, HB2.out⟩
      case measure => simp [intOf]; omega
    · go_wp2
      go_ret
      have hj6 : j = 6 := by omega
      subst hj6
      obtain ⟨oa', c', hv, hn, hcs⟩ := Cells.of_owns hown
      exact ⟨oa', c', congrArg Ending.returned hv, hcs, hbel⟩

theorem digits_length (N i : Nat) : (digits N i).length = i := by simp [digits]
theorem digits_get (N i j : Nat) (h : j < i) : (digits N i)[j]? = some (.int .u64 ((N / 65536 ^ j % 65536 : Nat) : Int)) := by simp [digits, h]

theorem digit_gt (A B j : Nat) (h : A / 65536 ^ (j + 1) = B / 65536 ^ (j + 1)) (hne : A / 65536 ^ j % 65536 ≠ B / 65536 ^ j % 65536) :
    decide (B / 65536 ^ j % 65536 < A / 65536 ^ j % 65536) = decide (B < A) := by
  rw [Nat.pow_succ, ← Nat.div_div_eq_div_mul, ← Nat.div_div_eq_div_mul] at h
  have hm : 0 < 65536 ^ j := Nat.pow_pos (by omega)
  generalize 65536 ^ j = m at *
  have h1 : B / m % 65536 < A / m % 65536 ↔ B / m < A / m := by omega
  have h2 : B / m ≠ A / m := fun e => hne (by rw [e])
  rw [decide_eq_decide, h1]
  constructor
  · intro h3
    rcases Nat.lt_or_ge B A with h4 | h4
    · exact h4
    · have := Nat.div_le_div_right (c := m) h4; omega
  · intro h3
    have := Nat.div_le_div_right (c := m) (Nat.le_of_lt h3); omega

theorem above13 (oa ob : Option Addr) (c d A B : Nat) (w : World) (ha : Cells w oa (digits A 6)) (hb : Cells w ob (digits B 6)) (hA : Hid (A / 65536 ^ 6 = B / 65536 ^ 6)) :
    Calls Try.prog 13 #[.slice oa 6 c, .slice ob 6 d] w fun r w' => r = .returned (.bool (decide (B < A))) ∧ Below w.heap.size w w' := by
  have HA := Lib.hid ha; have HB := Lib.hid hb; clear ha hb
  go_enter Try.func13, Try.ntmps13
  go_wp2
  go_loopw [5] (fun i wr => ∃ k : Nat, k ≤ 6 ∧ i = .int .i64 ((k : Int) - 1) ∧ Hid (A / 65536 ^ k = B / 65536 ^ k) ∧ ∃ n, wr = w.drewN n) (fun i _ => ((intOf i) + 1).toNat)
  case atStart => exact ⟨6, by omega, rfl, hA, 0, rfl⟩
  case round =>
    obtain ⟨k, hk, rfl, hq, n, rfl⟩ := hrel
    cases k with
    | zero =>
      have hlt : ¬ (0 : Int) ≤ ((0 : Nat) : Int) - 1 := by omega
      go_wp2
      go_ret
      refine ⟨congrArg (fun x => Ending.returned (.bool x)) ?_, below_drewN (Below.refl _ _) n⟩
      have := hq.out
      simp at this
      simp [this]
    | succ j =>
      rw [show ((j + 1 : Nat) : Int) - 1 = (j : Int) from by omega]
      have hj : j < 6 := by omega
      obtain ⟨b1, o1, rfl, -, hc1⟩ := HA.out.at' (i := j) (by rw [digits_length]; exact hj)
      obtain ⟨b2, o2, rfl, -, hc2⟩ := HB.out.at' (i := j) (by rw [digits_length]; exact hj)
      have g1 := digits_get A 6 j hj
      have g2 := digits_get B 6 j hj
      rw [List.getElem?_eq_getElem (by rw [digits_length]; exact hj), Option.some.injEq] at g1 g2
      rw [g1] at hc1
      rw [g2] at hc2
      have hd := digit_gt A B j hq.out
      have HDD := Lib.hid hd
      clear g1 g2 hd
      have HE : Hid (A / 65536 ^ j % 65536 = B / 65536 ^ j % 65536 → A / 65536 ^ j = B / 65536 ^ j) := by
        intro h
        have h1 := hq.out
        rw [Nat.pow_succ, ← Nat.div_div_eq_div_mul, ← Nat.div_div_eq_div_mul] at h1
        omega
      generalize hx : A / 65536 ^ j % 65536 = x at *
      generalize hy : B / 65536 ^ j % 65536 = y at *
      clear hx hy
      by_cases he : x = y
      · have he1 : ((x : Int) != (y : Int)) = false := by rw [bne_eq_false_iff_eq]; omega
        have HG : Hid (A / 65536 ^ j = B / 65536 ^ j) := HE.out he
        clear he
        go_wp2
        go_quiet (fail)
        go_wp2
        go_roundw
        case rel => exact ⟨j, by omega, rfl, HG, _, rfl⟩
        case measure => simp [intOf]
      · have he1 : ((x : Int) != (y : Int)) = true := by rw [bne_iff_ne]; omega
        have HG := Lib.hid (HDD.out he)
        clear he
        go_wp2
        go_quiet (fail)
        go_wp2
        go_quiet (fail)
        go_wp2
        go_ret
        exact ⟨congrArg (fun x => Ending.returned (.bool x)) HG.out, below_drewN (below_drewN (below_drewN (Below.refl _ _) _) _) _⟩

theorem check8_nil (me ow : Ent) (oa : Option Addr) (c : Nat) (key : UInt64) (w : World) :
    Calls Try.prog 8 #[.agg #[.string me.name, .int .u64 (me.id.toNat : Int), .int .i64 me.frm, .int .i64 me.til, .int .i64 me.idx, .string me.tag], .slice oa 0 c, .int .u64 (key.toNat : Int), .agg #[.string ow.name, .int .u64 (ow.id.toNat : Int), .int .i64 ow.frm, .int .i64 ow.til, .int .i64 ow.idx, .string ow.tag]] w fun r w' => r = .returned (.int .i64 (suspect (nearL me [] key ow))) ∧ Below w.heap.size w w' := by
  have hb : Below w.heap.size w ((w.alloc (.cells #[.string me.name, .int .u64 (me.id.toNat : Int), .int .i64 me.frm, .int .i64 me.til, .int .i64 me.idx, .string me.tag] 24)).alloc (.cells #[.string ow.name, .int .u64 (ow.id.toNat : Int), .int .i64 ow.frm, .int .i64 ow.til, .int .i64 ow.idx, .string ow.tag] 24)) := ((Below.refl _ _).alloc (Nat.le_refl _) _).alloc (by simp) _
  have HB := Lib.hid hb; clear hb
  go_enter Try.func8, Try.ntmps8
  go_wp2
  go_ret
  exact ⟨rfl, HB.out⟩

set_option maxRecDepth 100000 in
theorem check8_some (me ow : Ent) (oa : Option Addr) (n c : Nat) (l : List Peer) (key : UInt64) (w : World) (h : RowsOf Peer.cells w oa n l) (hn : n ≤ 64) (hpos : 0 < n) :
    Calls Try.prog 8 #[.agg #[.string me.name, .int .u64 (me.id.toNat : Int), .int .i64 me.frm, .int .i64 me.til, .int .i64 me.idx, .string me.tag], .slice oa n c, .int .u64 (key.toNat : Int), .agg #[.string ow.name, .int .u64 (ow.id.toNat : Int), .int .i64 ow.frm, .int .i64 ow.til, .int .i64 ow.idx, .string ow.tag]] w fun r w' => r = .returned (.int .i64 (suspect (nearL me l key ow))) ∧ Below w.heap.size w w' := by
  have HV : Hid (suspect (nearL me l key ow) = suspect (!decide ((spanL me l).toNat * 64 < (dist key ow.id).toNat * n))) := by
    show _ = _
    have hl := h.len
    unfold nearL
    rw [decide_eq_false (show ¬ l.length = 0 by omega), Bool.false_or, hl, ← decide_not]
    congr 1
    rw [decide_eq_decide]; omega
  have H : Hid (∀ W, Below w.heap.size w W → RowsOf Peer.cells W oa n l) := fun W hb => h.below hb
  clear h
  have HX : Hid ((dist key ow.id).toNat < 18446744073709551616) := (dist key ow.id).toNat_lt
  have HS : Hid ((spanL me l).toNat < 18446744073709551616) := (spanL me l).toNat_lt
  have HAB : Hid ((dist key ow.id).toNat * n / 65536 ^ 6 = (spanL me l).toNat * 64 / 65536 ^ 6) := by
    show _ = _
    have h1 : (dist key ow.id).toNat * n ≤ 18446744073709551616 * 64 := Nat.mul_le_mul (Nat.le_of_lt HX.out) hn
    have h2 := HS.out
    rw [Nat.div_eq_of_lt (by omega), Nat.div_eq_of_lt (by omega)]
  have hne : ((n : Int) == 0) = false := by rw [beq_eq_false_iff_ne]; omega
  have h0 : Below w.heap.size w ((w.alloc (.cells #[.string me.name, .int .u64 (me.id.toNat : Int), .int .i64 me.frm, .int .i64 me.til, .int .i64 me.idx, .string me.tag] 24)).alloc (.cells #[.string ow.name, .int .u64 (ow.id.toNat : Int), .int .i64 ow.frm, .int .i64 ow.til, .int .i64 ow.idx, .string ow.tag] 24)) := ((Below.refl _ _).alloc (Nat.le_refl _) _).alloc (by simp) _
  have hnn : n ≤ 140737488351232 := by omega
  go_enter Try.func8, Try.ntmps8
  go_wp2_with fail
  refine wp_region_seq [(0, true), (1, true), (2, true), (4, true), (5, true), (7, true), (8, true), (3, false), (6, false), (9, false), (10, false), (11, false)] (by kernel_rfl) (by kernel_rfl) (fun _ _ dd _ _ h => by cases dd <;> exact h) ?_
  intro W0 hW0
  have h1 : Below w.heap.size w W0 := hW0 ▸ h0.drew
  have cme0 : ∀ W, Below W0.heap.size W0 W → W.cell? ⟨w.heap.size, 0, none⟩ = some (.string me.name) := fun W hb => cell_later hb (by rw [hW0]; simp [World.cell?_alloc_at, World.cell?_alloc_past])
  have cme1 : ∀ W, Below W0.heap.size W0 W → W.cell? ⟨w.heap.size, 1, none⟩ = some (.int .u64 (me.id.toNat : Int)) := fun W hb => cell_later hb (by rw [hW0]; simp [World.cell?_alloc_at, World.cell?_alloc_past])
  have cme2 : ∀ W, Below W0.heap.size W0 W → W.cell? ⟨w.heap.size, 2, none⟩ = some (.int .i64 me.frm) := fun W hb => cell_later hb (by rw [hW0]; simp [World.cell?_alloc_at, World.cell?_alloc_past])
  have cme3 : ∀ W, Below W0.heap.size W0 W → W.cell? ⟨w.heap.size, 3, none⟩ = some (.int .i64 me.til) := fun W hb => cell_later hb (by rw [hW0]; simp [World.cell?_alloc_at, World.cell?_alloc_past])
  have cme4 : ∀ W, Below W0.heap.size W0 W → W.cell? ⟨w.heap.size, 4, none⟩ = some (.int .i64 me.idx) := fun W hb => cell_later hb (by rw [hW0]; simp [World.cell?_alloc_at, World.cell?_alloc_past])
  have cme5 : ∀ W, Below W0.heap.size W0 W → W.cell? ⟨w.heap.size, 5, none⟩ = some (.string me.tag) := fun W hb => cell_later hb (by rw [hW0]; simp [World.cell?_alloc_at, World.cell?_alloc_past])
  have cow0 : ∀ W, Below W0.heap.size W0 W → W.cell? ⟨w.heap.size + 1, 0, none⟩ = some (.string ow.name) := fun W hb => cell_later hb (by rw [hW0]; simp [World.cell?_alloc_at, World.cell?_alloc_past])
  have cow1 : ∀ W, Below W0.heap.size W0 W → W.cell? ⟨w.heap.size + 1, 1, none⟩ = some (.int .u64 (ow.id.toNat : Int)) := fun W hb => cell_later hb (by rw [hW0]; simp [World.cell?_alloc_at, World.cell?_alloc_past])
  have cow2 : ∀ W, Below W0.heap.size W0 W → W.cell? ⟨w.heap.size + 1, 2, none⟩ = some (.int .i64 ow.frm) := fun W hb => cell_later hb (by rw [hW0]; simp [World.cell?_alloc_at, World.cell?_alloc_past])
  have cow3 : ∀ W, Below W0.heap.size W0 W → W.cell? ⟨w.heap.size + 1, 3, none⟩ = some (.int .i64 ow.til) := fun W hb => cell_later hb (by rw [hW0]; simp [World.cell?_alloc_at, World.cell?_alloc_past])
  have cow4 : ∀ W, Below W0.heap.size W0 W → W.cell? ⟨w.heap.size + 1, 4, none⟩ = some (.int .i64 ow.idx) := fun W hb => cell_later hb (by rw [hW0]; simp [World.cell?_alloc_at, World.cell?_alloc_past])
  have cow5 : ∀ W, Below W0.heap.size W0 W → W.cell? ⟨w.heap.size + 1, 5, none⟩ = some (.string ow.tag) := fun W hb => cell_later hb (by rw [hW0]; simp [World.cell?_alloc_at, World.cell?_alloc_past])
  clear hW0 h0
  (refine seq_take (d := 12) (v := ?_) rfl rfl rfl ?_ ?_; rotate_left; (focus ((intro w' hb0 hw'; go_simp) <;> with_reducible rfl)); simp only [Act.put, List.setIfInBounds_toArray, List.set_cons_zero, List.set_cons_succ])
  (refine seq_take (d := 13) (v := ?_) rfl rfl rfl ?_ ?_; rotate_left; (focus ((intro w' hb0 hw'; go_simp) <;> with_reducible rfl)); simp only [Act.put, List.setIfInBounds_toArray, List.set_cons_zero, List.set_cons_succ])
  (refine seq_take (d := 14) (v := ?_) rfl rfl rfl ?_ ?_; rotate_left; (focus ((intro w' hb0 hw'; go_simp) <;> with_reducible rfl)); simp only [Act.put, List.setIfInBounds_toArray, List.set_cons_zero, List.set_cons_succ])
  (refine seq_take (d := 16) (v := ?_) rfl rfl rfl ?_ ?_; rotate_left; (focus ((intro w' hb0 hw'; go_simp) <;> with_reducible rfl)); simp only [Act.put, List.setIfInBounds_toArray, List.set_cons_zero, List.set_cons_succ])
  (refine seq_take (d := 17) (v := ?_) rfl rfl rfl ?_ ?_; rotate_left; (focus ((intro w' hb0 hw'; go_simp) <;> with_reducible rfl)); simp only [Act.put, List.setIfInBounds_toArray, List.set_cons_zero, List.set_cons_succ])
  (refine seq_take (d := 19) (v := ?_) rfl rfl rfl ?_ ?_; rotate_left; (focus ((intro w' hb0 hw'; go_simp) <;> with_reducible rfl)); simp only [Act.put, List.setIfInBounds_toArray, List.set_cons_zero, List.set_cons_succ])
  (refine seq_take (d := 20) (v := ?_) rfl rfl rfl ?_ ?_; rotate_left; (focus ((intro w' hb0 hw'; go_simp) <;> with_reducible rfl)); simp only [Act.put, List.setIfInBounds_toArray, List.set_cons_zero, List.set_cons_succ])
  refine seq_do rfl rfl (fun K hK => ?_)
  go_simp
  refine (dist15 _ _ _).mono ?_
  rintro r w2 ⟨rfl, rfl⟩
  refine hK _ _ (Below.refl _ _) ?_
  clear hK K
  refine seq_do rfl rfl (fun K hK => ?_)
  go_simp
  refine (product14 _ n _ hn HX).mono ?_
  rintro r w2 ⟨o2, c2, rfl, hr2, hb2⟩
  rw [digits_length]
  have h2 := below_step (W := w) (by assumption) hb2
  refine hK _ _ hb2 ?_
  clear hb2 hK K
  have HR2 : Hid (∀ W, Below w2.heap.size w2 W → Cells W o2 (digits ((dist key ow.id).toNat * n) 6)) := fun W h => hr2.below h (Nat.le_refl _)
  clear hr2
  refine seq_do rfl rfl (fun K hK => ?_)
  go_simp
  refine (span10 me _ _ _ l _ (H.out _ (by assumption)) hnn).mono ?_
  rintro r w3 ⟨rfl, hb3⟩
  have h3 := below_step (W := w) (by assumption) hb3
  have e3 := Lib.hid hb3
  refine hK _ _ hb3 ?_
  clear hb3 hK K
  have e3 := e3.out
  refine seq_do rfl rfl (fun K hK => ?_)
  go_simp
  refine (product14 _ 64 _ (Nat.le_refl _) HS).mono ?_
  rintro r w4 ⟨o4, c4, rfl, hr4, hb4⟩
  rw [digits_length]
  have h4 := below_step (W := w) (by assumption) hb4
  have e4 := below_step (W := w2) (by assumption) hb4
  refine hK _ _ hb4 ?_
  clear hb4 hK K
  have HR4 := Lib.hid hr4
  clear hr4
  refine seq_do rfl rfl (fun K hK => ?_)
  go_simp
  refine (above13 _ _ _ _ _ _ _ (HR2.out _ (by assumption)) HR4.out HAB).mono ?_
  rintro r w5 ⟨rfl, hb5⟩
  have h5 := below_step (W := w) (by assumption) hb5
  refine hK _ _ hb5 ?_
  clear hb5 hK K
  refine seq_end ?_
  cases hx : decide ((spanL me l).toNat * 64 < (dist key ow.id).toNat * n)
  all_goals
    have HX := Lib.hid hx; clear hx
    go_wp2
    go_ret
    exact ⟨congrArg (fun x => Ending.returned (.int .i64 x)) (by rw [HV.out, HX.out]; rfl), h5⟩

theorem check8 (me ow : Ent) (oa : Option Addr) (n c : Nat) (l : List Peer) (key : UInt64) (w : World) (h : RowsOf Peer.cells w oa n l) (hn : n ≤ 64) :
    Calls Try.prog 8 #[.agg #[.string me.name, .int .u64 (me.id.toNat : Int), .int .i64 me.frm, .int .i64 me.til, .int .i64 me.idx, .string me.tag], .slice oa n c, .int .u64 (key.toNat : Int), .agg #[.string ow.name, .int .u64 (ow.id.toNat : Int), .int .i64 ow.frm, .int .i64 ow.til, .int .i64 ow.idx, .string ow.tag]] w fun r w' => r = .returned (.int .i64 (suspect (nearL me l key ow))) ∧ Below w.heap.size w w' := by
  by_cases h0 : n = 0
  · subst h0
    obtain rfl : l = [] := List.eq_nil_of_length_eq_zero h.len.symm
    exact check8_nil me ow oa c key w
  · exact check8_some me ow oa n c l key w h hn (by omega)
end Go.Proofs.Ytpefeoneafddkaa
