/-
  Walks: the keys of results; results that are great.
-/
import Derived.Test.YtnfkjicoielpnaaWe
namespace Go.Proofs.Ytnfkjicoielpnaa
open Go.RowKit
set_option maxHeartbeats 1000000
set_option maxRecDepth 20000
set_option linter.unusedVariables false
set_option linter.unusedSimpArgs false

instance memDec (x : ByteArray) (l : List ByteArray) : Decidable (x ∈ l) := @List.instDecidableMemOfLawfulBEq ByteArray instBEqOfDecidableEq inferInstance x l
def addKey (ks : List ByteArray) (x : ByteArray) : List ByteArray := if x ∈ ks then ks else ks ++ [x]
def keysOf (l : List Res) : List ByteArray := l.foldl (fun ks r => addKey ks r.key) []
theorem keysOf_succ (l : List Res) {k : Nat} (h : k < l.length) : keysOf (l.take (k + 1)) = addKey (keysOf (l.take k)) l[k].key := by
  unfold keysOf; rw [List.take_succ_eq_append_getElem h, List.foldl_append]; rfl
theorem addKey_len (ks : List ByteArray) (x : ByteArray) : (addKey ks x).length ≤ ks.length + 1 := by unfold addKey; split <;> simp
theorem keys_len : ∀ (l : List Res) (ks : List ByteArray), (l.foldl (fun ks r => addKey ks r.key) ks).length ≤ ks.length + l.length
  | [], ks => by simp
  | r :: l, ks => by have h1 := keys_len l (addKey ks r.key); have h2 := addKey_len ks r.key; simp only [List.foldl_cons, List.length_cons]; omega
theorem keysOf_len (l : List Res) : (keysOf l).length ≤ l.length := by have := keys_len l []; simpa [keysOf] using this
abbrev RStr := Rws str1

theorem RowsOf.str {w : World} {oa : Option Addr} {n : Nat} {l : List ByteArray} (h : RowsOf str1 w oa n l) {i : Nat} (hi : i < l.length) :
    ∃ b o, oa = some ⟨b, o, none⟩ ∧ b < w.heap.size ∧ w.cell? ⟨b, o + i, none⟩ = some (.string l[i]) := by
  obtain ⟨b, o, e, hlt, hc⟩ := h.elem (k := 1) (fun _ => rfl) (by omega) hi
  have := hc 0 (by omega)
  rw [Nat.mul_one] at this
  exact ⟨b, o, e, hlt, this⟩

theorem index27 (l : List ByteArray) (x : ByteArray) (w : World) (oa : Option Addr) (n c : Nat) (h : RStr w oa n c l) :
    Calls Try.prog 27 #[.slice oa n c, .string x] w fun r w' => (∃ i : Int, r = .returned (.int .i64 i) ∧ (decide (0 ≤ i) = decide (x ∈ l))) ∧ Below w.heap.size w w' := by
  obtain rfl : n = l.length := h.rows.len
  have H := Lib.hid h; clear h
  go_enter Try.func27, Try.ntmps27
  go_wp2
  go_loopw [5, 8] (fun _ i wr => ∃ k : Nat, k ≤ l.length ∧ i = .int .i64 k ∧ Hid (∀ j (h : j < l.length), j < k → l[j] ≠ x) ∧ Hid (Below w.heap.size w wr)) (fun _ i _ => l.length - (intOf i).toNat)
  case atStart => exact ⟨0, by omega, rfl, Lib.hid (fun j _ h => by omega), by (with_reducible try refine Lib.hid ?_); (repeat (with_reducible first | assumption | exact Below.refl _ _ | apply Below.drew | apply Below.drewN' | apply Below.setCell | apply Below.alloc)) <;> (try simp [length_fillTo, length_turnTo]) <;> (try omega)⟩
  case round =>
    obtain ⟨k, hk, rfl, hS, hbel⟩ := hrel
    by_cases hlt : k < l.length
    · have hi1 : (k : Int) < (l.length : Int) := by omega
      have rk : IntKind.i64.wrap ((k : Int) + 1) = ((k + 1 : Nat) : Int) := by
        have h1 := H.out.le; have h2 := H.out.cap
        simp only [maxLen] at h2
        rw [IntKind.wrap_i64]; omega
      obtain ⟨b1, p1, rfl, hb1, e0⟩ := (H.out.rows.below hbel.out).str hlt
      have HM : Hid (l[k] ∈ l) := List.getElem_mem hlt
      have HS2 : Hid (l[k] ≠ x → ∀ j (h : j < l.length), j < k + 1 → l[j] ≠ x) := by
        intro ht j hj hjk
        by_cases e : j = k
        · subst e; exact ht
        · exact hS.out j hj (by omega)
      obtain ⟨t, ht'⟩ : ∃ t, l[k] = t := ⟨_, rfl⟩
      rw [ht'] at e0 HM HS2
      clear ht'
      by_cases ht : t = x
      · subst ht
        clear hS HS2
        go_wp2
        refine bodyPost_ret (v := .int .i64 (k : Int)) (by simp [results, Try.results27, go_sem]) rfl ⟨⟨_, rfl, by rw [decide_eq_true HM.out]; exact decide_eq_true (by omega)⟩, hbel.out⟩
      · have hne := strne (fun e => ht e.symm)
        have HS3 := Lib.hid (HS2.out ht)
        clear hS HS2
        go_wp2
        go_roundw
        case measure => (simp [intOf]) <;> omega
        case rel => exact ⟨k + 1, by omega, rfl, HS3, hbel⟩
    · obtain rfl : k = l.length := by omega
      have HF : Hid (x ∉ l) := fun hx => by
        obtain ⟨j, hj, e⟩ := List.getElem_of_mem hx
        exact hS.out j hj hj e
      have hb1 := hbel.out
      clear hS
      go_wp2
      refine bodyPost_ret (v := .int .i64 (-1)) (by simp [results, Try.results27, go_sem]) rfl ⟨⟨_, rfl, by rw [decide_eq_false HF.out]; rfl⟩, hb1⟩

theorem contains24 (l : List ByteArray) (x : ByteArray) (w : World) (oa : Option Addr) (n c : Nat) (h : RStr w oa n c l) :
    Calls Try.prog 24 #[.slice oa n c, .string x] w fun r w' => r = .returned (.bool (decide (x ∈ l))) ∧ Below w.heap.size w w' := by
  go_enter Try.func24, Try.ntmps24
  go_wp2_with fail
  refine (index27 l x w oa n c h).mono ?_
  rintro r w1 ⟨⟨i, rfl, hi⟩, hb⟩
  have HI := Lib.hid hi; have HB := Lib.hid hb; clear hi hb
  go_wp2
  refine bodyPost_ret (v := .bool (decide (0 ≤ i))) (by simp [results, Try.results24, go_sem]) rfl ⟨by rw [HI.out], HB.out⟩

theorem str_oneCells (l : List ByteArray) : ∀ u ∈ l.flatMap str1, u.oneCell' = true := by
  intro u hu
  obtain ⟨p, -, hp⟩ := List.mem_flatMap.1 hu
  simp [str1] at hp
  subst hp; rfl

theorem keys13 (l : List Res) (w : World) (oa : Option Addr) (n c : Nat) (h : RRes w oa n c l) (hl : l.length ≤ 1000) :
    Calls Try.prog 13 #[.slice oa n c] w fun r w' => (∃ o' c', r = .returned (.slice o' (keysOf l).length c') ∧ RStr w' o' (keysOf l).length c' (keysOf l)) ∧ Below w.heap.size w w' := by
  obtain rfl : n = l.length := h.rows.len
  have H := Lib.hid h; have HL := Lib.hid hl; clear h hl
  go_enter Try.func13, Try.ntmps13
  go_wp2
  go_loopw [3, 5, 8] (fun v _ i wr => ∃ k : Nat, k ≤ l.length ∧ i = .int .i64 k ∧ Hid (Own wr w.heap.size 9 1 v (keysOf (l.take k)).length ((keysOf (l.take k)).flatMap str1)) ∧ Hid (Below w.heap.size w wr)) (fun _ _ i _ => l.length - (intOf i).toNat)
  case atStart => exact ⟨0, by omega, rfl, Lib.hid (Own.nil _ _ _ _), by (with_reducible try refine Lib.hid ?_); (repeat (with_reducible first | assumption | exact Below.refl _ _ | apply Below.drew | apply Below.drewN' | apply Below.setCell | apply Below.alloc)) <;> (try simp [length_fillTo, length_turnTo]) <;> (try omega)⟩
  case round =>
    obtain ⟨k, hk, rfl, hO, hbel⟩ := hrel
    by_cases hlt : k < l.length
    · have hi1 : (k : Int) < (l.length : Int) := by omega
      have rk : IntKind.i64.wrap ((k : Int) + 1) = ((k + 1 : Nat) : Int) := by
        have h1 := HL.out
        rw [IntKind.wrap_i64]; omega
      have hlen : (keysOf (l.take k)).length ≤ 1000 := by
        have h1 := keysOf_len (l.take k)
        have h2 := HL.out
        simp only [List.length_take] at h1
        omega
      have HLEN := Lib.hid hlen; clear hlen
      have HT := Lib.hid (keysOf_succ l hlt)
      obtain ⟨b1, p1, rfl, hb1, e0, e1, e2, e3, e4, e5, e6, e7⟩ := (H.out.rows.below hbel.out).res hlt
      obtain ⟨q1, hq1'⟩ : ∃ q, l[k] = q := ⟨_, rfl⟩
      rw [hq1'] at e0 e1 e2 e3 e4 e5 e6 e7 HT
      clear hq1'
      obtain ⟨job, kind, ver, key, val, has, gone, err⟩ := q1
      simp only at e0 e1 e2 e3 e4 e5 e6 e7 HT
      obtain ⟨L, hL⟩ : ∃ L, keysOf (l.take k) = L := ⟨_, rfl⟩
      rw [hL] at hO HT HLEN
      clear hL
      have hal : Below wr.heap.size wr (wr.alloc (.cells (Res.cells ⟨job, kind, ver, key, val, has, gone, err⟩).toArray 36)) := (Below.refl _ _).alloc (Nat.le_refl _) _
      have hX : Blk (wr.alloc (.cells (Res.cells ⟨job, kind, ver, key, val, has, gone, err⟩).toArray 36)) wr.heap.size (Res.cells ⟨job, kind, ver, key, val, has, gone, err⟩) := Blk.new' rfl
      have hO1 := hO.out.later hal
      have hb1' := below_step hbel.out hal
      obtain ⟨o', c', rfl, hR⟩ := Own.rws hO1 rfl
      have HR := Lib.hid hR; have HO1 := Lib.hid hO1; have HB1 := Lib.hid hb1'; have HX := Lib.hid hX
      clear hR hO1 hb1' hX hal hO hbel
      go_wp2_with (first | fail)
      refine (contains24 L key _ _ _ _ HR.out).mono ?_
      rintro r w2 ⟨rfl, hb2⟩
      have hO2 := HO1.out.later hb2
      have hB2 := below_step HB1.out hb2
      have hX2 := HX.out.later hb2
      have x3 := hX2.at' 3 (by simp [Res.cells])
      simp only [Res.cells, List.getElem_cons_zero, List.getElem_cons_succ] at x3
      have hx2 := hX2.lt
      have HO2 := Lib.hid hO2; have HB2 := Lib.hid hB2
      clear hO2 hB2 hb2 HX HO1 HB1 HR hX2 e0 e1 e2 e3 e4 e5 e6 e7
      by_cases hm : key ∈ L
      · have HT2 : Hid (keysOf (l.take (k + 1)) = L) := by show _ = _; rw [HT.out]; unfold addKey; rw [if_pos hm]
        rw [decide_eq_true hm]
        clear HT hm
        go_wp2
        go_roundw
        case measure => (simp [intOf]) <;> omega
        case rel => exact ⟨k + 1, by omega, rfl, Lib.hid (by rw [HT2.out]; exact HO2.out), HB2⟩
      · have HT2 : Hid (keysOf (l.take (k + 1)) = L ++ [key]) := by show _ = _; rw [HT.out]; unfold addKey; rw [if_neg hm]
        rw [decide_eq_false hm]
        clear HT hm
        have hN3 : Blk (w2.alloc (.cells [Value.string key].toArray 9)) w2.heap.size [Value.string key] := Blk.new' rfl
        have hal2 : Below w2.heap.size w2 (w2.alloc (.cells [Value.string key].toArray 9)) := (Below.refl _ _).alloc (Nat.le_refl _) _
        have hO3 := HO2.out.later hal2
        have hB3 := below_step HB2.out hal2
        have HN3 := Lib.hid hN3; have HO3 := Lib.hid hO3; have HB3 := Lib.hid hB3
        clear hN3 hal2 hO3 hB3 HO2 HB2
        go_wp2_with (refine stop_append rfl ?_)
        have hlen := HLEN.out
        refine ⟨wpList_app el29 rfl (by rfl) (by rfl) HO3.out (by rfl) (m := 1) rfl HN3.out.cells (by simp [Value.oneCell']) (by simp [maxLen]; omega) (by omega) HB3.out.size ?_⟩
        intro v4 W4 hO4 hg4
        have hb4 := HO3.out.below hg4 HB3.out (Nat.le_refl _) HB3.out.size
        have HO4 := Lib.hid hO4; have HB4 := Lib.hid hb4
        clear hO4 hg4 hb4 hlen HO3 HN3 HB3 x3
        go_wp2
        go_roundw
        case measure => (simp [intOf]) <;> omega
        case rel =>
          refine ⟨k + 1, by omega, rfl, Lib.hid ?_, HB4⟩
          rw [HT2.out]
          simpa [str1] using HO4.out
    · obtain rfl : k = l.length := by omega
      rw [List.take_length] at hO
      obtain ⟨o', c', rfl, hR⟩ := Own.rws hO.out rfl
      have HR := Lib.hid hR; have HB := hbel; clear hR hbel hO
      go_wp2
      refine bodyPost_ret (v := .slice o' (keysOf l).length c') (by simp [results, Try.results13, go_sem]) rfl ⟨⟨o', c', rfl, HR.out⟩, HB.out⟩

def GreatOk (n : Nat) (e : Ending) : Prop := ∃ b, e = .returned (.bool b) ∧ (b = false → n ≤ 100)
theorem great6 (l : List Res) (w : World) (oa : Option Addr) (n c : Nat) (h : RRes w oa n c l) :
    Calls Try.prog 6 #[.slice oa n c] w fun r w' => GreatOk l.length r ∧ Below w.heap.size w w' := by
  obtain rfl : n = l.length := h.rows.len
  have H := Lib.hid h; clear h
  by_cases hlen : 100 < l.length
  · have hlen' : (100 : Int) < (l.length : Int) := by omega
    clear hlen
    go_enter Try.func6, Try.ntmps6
    go_wp2
    refine bodyPost_ret (v := .bool true) (by simp [results, Try.results6, go_sem]) rfl ⟨⟨true, rfl, fun h => by simp at h⟩, Below.refl _ _⟩
  · have hlen' : ¬ (100 : Int) < (l.length : Int) := by omega
    have HLEN : Hid (l.length ≤ 100) := by show _ ≤ _; omega
    go_enter Try.func6, Try.ntmps6
    go_wp2
    clear hlen hlen'
    go_loopw [3] (fun i wr => ∃ (k : Nat), k ≤ l.length ∧ i = .int .i64 k ∧ Hid (Below w.heap.size w wr)) (fun i _ => l.length - (intOf i).toNat)
    case atStart => exact ⟨0, by omega, rfl, by (with_reducible try refine Lib.hid ?_); (repeat (with_reducible first | assumption | exact Below.refl _ _ | apply Below.drew | apply Below.drewN' | apply Below.setCell | apply Below.alloc)) <;> (try simp [length_fillTo, length_turnTo]) <;> (try omega)⟩
    case round =>
      obtain ⟨k, hk, rfl, hbel⟩ := hrel
      by_cases hlt : k < l.length
      · have hi1 : (k : Int) < (l.length : Int) := by omega
        have rk : IntKind.i64.wrap ((k : Int) + 1) = ((k + 1 : Nat) : Int) := by
          have h1 := HLEN.out
          rw [IntKind.wrap_i64]; omega
        obtain ⟨b1, p1, rfl, hb1, e0, e1, e2, e3, e4, e5, e6, e7⟩ := (H.out.rows.below hbel.out).res hlt
        obtain ⟨q1, hq1'⟩ : ∃ q, l[k] = q := ⟨_, rfl⟩
        rw [hq1'] at e0 e1 e2 e3 e4 e5 e6 e7
        clear hq1'
        obtain ⟨job, kind, ver, key, val, has, gone, err⟩ := q1
        simp only at e0 e1 e2 e3 e4 e5 e6 e7
        by_cases h1 : (300 : Int) < (key.size : Int)
        · go_wp2
          refine bodyPost_ret (v := .bool true) (by simp [results, Try.results6, go_sem]) rfl ⟨⟨true, rfl, fun h => by simp at h⟩, hbel.out⟩
        · by_cases h2 : (300 : Int) < (val.size : Int)
          · go_wp2
            refine bodyPost_ret (v := .bool true) (by simp [results, Try.results6, go_sem]) rfl ⟨⟨true, rfl, fun h => by simp at h⟩, hbel.out⟩
          · go_wp2
            go_roundw
            case measure => (simp [intOf]) <;> omega
            case rel => exact ⟨k + 1, by omega, rfl, hbel⟩
      · obtain rfl : k = l.length := by omega
        go_wp2
        refine bodyPost_ret (v := .bool false) (by simp [results, Try.results6, go_sem]) rfl ⟨⟨false, rfl, fun _ => HLEN.out⟩, hbel.out⟩
end Go.Proofs.Ytnfkjicoielpnaa
