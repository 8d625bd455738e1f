/-
  The document's states of all keys: where a key stands; what one more result makes of them.
-/
import Derived.Test.YtnfkjicoielpnaaWf
namespace Go.Proofs.Ytnfkjicoielpnaa
open Go.RowKit
set_option maxHeartbeats 1000000
set_option maxRecDepth 20000
set_option linter.unusedVariables false
set_option linter.unusedSimpArgs false

def stsOf (l : List Res) : List KSt := (keysOf l).map fun x => (x, known (ofKey l x))
def atK (A : List KSt) (x : ByteArray) : Nat := A.findIdx fun s => decide (s.1 = x)
def withK (A : List KSt) (x : ByteArray) : List KSt := if atK A x < A.length then A else A ++ [(x, st0)]

theorem addKey_nodup {ks : List ByteArray} (x : ByteArray) (h : ks.Nodup) : (addKey ks x).Nodup := by
  unfold addKey
  split
  · exact h
  · rename_i hx
    rw [List.nodup_append]
    exact ⟨h, by simp, fun a ha b hb e => by
      have : b = x := by simpa using hb
      subst this; subst e; exact hx ha⟩
theorem keys_nodup : ∀ (l : List Res) (ks : List ByteArray), ks.Nodup → (l.foldl (fun ks r => addKey ks r.key) ks).Nodup
  | [], ks, h => h
  | r :: l, ks, h => keys_nodup l _ (addKey_nodup _ h)
theorem keysOf_nodup (l : List Res) : (keysOf l).Nodup := keys_nodup l [] List.nodup_nil
theorem mem_addKey {ks : List ByteArray} {x y : ByteArray} : y ∈ addKey ks x ↔ y ∈ ks ∨ y = x := by
  unfold addKey
  split
  · rename_i h
    exact ⟨.inl, fun h' => h'.elim id (fun e => e ▸ h)⟩
  · simp
theorem mem_keys : ∀ (l : List Res) (ks : List ByteArray) (y : ByteArray), y ∈ l.foldl (fun ks r => addKey ks r.key) ks ↔ y ∈ ks ∨ ∃ r ∈ l, r.key = y
  | [], ks, y => by simp
  | r :: l, ks, y => by
    rw [List.foldl_cons, mem_keys l, mem_addKey]
    constructor
    · rintro ((h | h) | ⟨s, hs, e⟩)
      · exact .inl h
      · exact .inr ⟨r, by simp, h.symm⟩
      · exact .inr ⟨s, by simp [hs], e⟩
    · rintro (h | ⟨s, hs, e⟩)
      · exact .inl (.inl h)
      · rcases List.mem_cons.1 hs with rfl | hs
        · exact .inl (.inr e.symm)
        · exact .inr ⟨s, hs, e⟩
theorem mem_keysOf (l : List Res) (y : ByteArray) : y ∈ keysOf l ↔ ∃ r ∈ l, r.key = y := by
  unfold keysOf; rw [mem_keys]; simp
theorem ofKey_nil {l : List Res} {x : ByteArray} (h : x ∉ keysOf l) : ofKey l x = [] := by
  unfold ofKey
  rw [List.filter_eq_nil_iff]
  intro r hr e
  exact h ((mem_keysOf l x).2 ⟨r, hr, by simpa using e⟩)
theorem keysOf_append (l : List Res) (r : Res) : keysOf (l ++ [r]) = addKey (keysOf l) r.key := by
  unfold keysOf; rw [List.foldl_append]; rfl
theorem ofKey_same (l : List Res) (r : Res) : ofKey (l ++ [r]) r.key = ofKey l r.key ++ [r] := by unfold ofKey; rw [List.filter_append]; simp
theorem ofKey_other (l : List Res) (r : Res) {x : ByteArray} (h : r.key ≠ x) : ofKey (l ++ [r]) x = ofKey l x := by unfold ofKey; rw [List.filter_append]; simp [h]
theorem known_append (l : List Res) (r : Res) : known (l ++ [r]) = after (known l) r := by unfold known; rw [List.foldl_append]; rfl

theorem atK_mem {l : List Res} {x : ByteArray} (h : x ∈ keysOf l) : atK (stsOf l) x < (stsOf l).length := by
  unfold atK
  rw [List.findIdx_lt_length]
  exact ⟨(x, known (ofKey l x)), List.mem_map.2 ⟨x, h, rfl⟩, by simp⟩
theorem atK_not {l : List Res} {x : ByteArray} (h : x ∉ keysOf l) : atK (stsOf l) x = (stsOf l).length := by
  unfold atK
  rw [List.findIdx_eq_length]
  intro s hs
  obtain ⟨y, hy, rfl⟩ := List.mem_map.1 hs
  exact decide_eq_false (fun e => h (e ▸ hy))
theorem atK_get {l : List Res} {x : ByteArray} (h : atK (stsOf l) x < (stsOf l).length) : (stsOf l)[atK (stsOf l) x] = (x, known (ofKey l x)) := by
  have h1 : decide (((stsOf l)[atK (stsOf l) x]).1 = x) = true := List.findIdx_getElem (w := h)
  have h2 : (stsOf l)[atK (stsOf l) x] ∈ stsOf l := List.getElem_mem h
  obtain ⟨y, hy, e⟩ := List.mem_map.1 h2
  rw [← e] at h1 ⊢
  have : y = x := by simpa using h1
  rw [this]

/-- what stands at the key's place -/
theorem withK_get (l : List Res) (x : ByteArray) : ∃ h : atK (stsOf l) x < (withK (stsOf l) x).length, (withK (stsOf l) x)[atK (stsOf l) x] = (x, known (ofKey l x)) := by
  by_cases hx : x ∈ keysOf l
  · have h := atK_mem hx
    have e : withK (stsOf l) x = stsOf l := by unfold withK; rw [if_pos h]
    refine ⟨by rw [e]; exact h, ?_⟩
    simp only [e]
    exact atK_get h
  · have h := atK_not hx
    have e : withK (stsOf l) x = stsOf l ++ [(x, st0)] := by unfold withK; rw [if_neg (by omega)]
    refine ⟨by rw [e, h]; simp, ?_⟩
    simp only [e, h]
    rw [List.getElem_append_right (by omega)]
    simp [ofKey_nil hx, known]

theorem withK_get? (l : List Res) (x : ByteArray) : (withK (stsOf l) x)[atK (stsOf l) x]? = some (x, known (ofKey l x)) := by
  obtain ⟨h, e⟩ := withK_get l x
  rw [List.getElem?_eq_getElem h, e]

theorem withK_set (l : List Res) (r : Res) : (withK (stsOf l) r.key).set (atK (stsOf l) r.key) (r.key, after (known (ofKey l r.key)) r) = stsOf (l ++ [r]) := by
  by_cases hx : r.key ∈ keysOf l
  · have h := atK_mem hx
    have e : withK (stsOf l) r.key = stsOf l := by unfold withK; rw [if_pos h]
    have ek : keysOf (l ++ [r]) = keysOf l := by rw [keysOf_append]; unfold addKey; rw [if_pos hx]
    rw [e]
    have hg := atK_get h
    have hlen : (stsOf l).length = (keysOf l).length := by simp [stsOf]
    apply List.ext_getElem
    · simp [stsOf, ek]
    · intro i h1 h2
      have hi : i < (keysOf l).length := by simp at h1; omega
      have hki : (keysOf l)[atK (stsOf l) r.key]'(by omega) = r.key := by
        have := congrArg Prod.fst hg
        simpa [stsOf] using this
      have e2 : (stsOf (l ++ [r]))[i] = ((keysOf l)[i], known (ofKey (l ++ [r]) (keysOf l)[i])) := by simp [stsOf, ek]
      rw [e2, List.getElem_set]
      by_cases hi2 : atK (stsOf l) r.key = i
      · subst hi2
        rw [if_pos rfl, hki, ofKey_same, known_append]
      · rw [if_neg hi2]
        have hne : r.key ≠ (keysOf l)[i] := by
          intro e3
          rw [← hki] at e3
          rcases Nat.lt_or_gt_of_ne hi2 with h' | h'
          · exact List.pairwise_iff_getElem.1 (keysOf_nodup l) _ _ _ _ h' e3
          · exact List.pairwise_iff_getElem.1 (keysOf_nodup l) _ _ _ _ h' e3.symm
        rw [ofKey_other l r hne]
        simp [stsOf]
  · have h := atK_not hx
    have e : withK (stsOf l) r.key = stsOf l ++ [(r.key, st0)] := by unfold withK; rw [if_neg (by omega)]
    have ek : keysOf (l ++ [r]) = keysOf l ++ [r.key] := by rw [keysOf_append]; unfold addKey; rw [if_neg hx]
    rw [e, h, List.set_append_right _ _ (Nat.le_refl _), Nat.sub_self]
    unfold stsOf
    rw [ek, List.map_append]
    congr 1
    · apply List.map_congr_left
      intro y hy
      rw [ofKey_other l r (fun e => hx (e ▸ hy))]
    · simp [ofKey_same, known_append]

theorem stsOf_len (l : List Res) : (stsOf l).length ≤ l.length := by have := keysOf_len l; simpa [stsOf] using this
theorem withK_len (A : List KSt) (x : ByteArray) : (withK A x).length ≤ A.length + 1 := by unfold withK; split <;> simp

theorem RowsOf.ks {w : World} {oa : Option Addr} {n : Nat} {l : List KSt} (h : RowsOf scells w oa n l) {i : Nat} (hi : i < l.length) :
    ∃ b o, oa = some ⟨b, o, none⟩ ∧ b < w.heap.size ∧ w.cell? ⟨b, o + i * 5, none⟩ = some (.string l[i].1) ∧ w.cell? ⟨b, o + i * 5 + 1, none⟩ = some (.string l[i].2.val) ∧ w.cell? ⟨b, o + i * 5 + 2, none⟩ = some (.int .i64 l[i].2.ver) ∧
      w.cell? ⟨b, o + i * 5 + 3, none⟩ = some (.bool l[i].2.is) ∧ w.cell? ⟨b, o + i * 5 + 4, none⟩ = some (.bool l[i].2.un) := by
  obtain ⟨b, o, e, hlt, hc⟩ := h.elem (k := 5) (fun _ => rfl) (by omega) hi
  exact ⟨b, o, e, hlt, hc 0 (by omega), hc 1 (by omega), hc 2 (by omega), hc 3 (by omega), hc 4 (by omega)⟩
theorem scells_one (l : List KSt) : ∀ u ∈ l.flatMap scells, u.oneCell' = true := by
  intro u hu
  obtain ⟨p, -, hp⟩ := List.mem_flatMap.1 hu
  simp [scells] at hp
  rcases hp with rfl | rfl | rfl | rfl | rfl <;> rfl

theorem atK_at (x : ByteArray) (A : List KSt) (k : Nat) (hk : k < A.length) (h : ∀ j (hj : j < A.length), j < k → A[j].1 ≠ x) (h1 : A[k].1 = x) : atK A x = k := by
  unfold atK
  rw [List.findIdx_eq hk]
  exact ⟨by simpa using h1, fun j hj => decide_eq_false (h j (by omega) hj)⟩
theorem atK_end (x : ByteArray) (A : List KSt) (h : ∀ j (hj : j < A.length), A[j].1 ≠ x) : atK A x = A.length := by
  unfold atK
  rw [List.findIdx_eq_length]
  intro s hs
  obtain ⟨j, hj, rfl⟩ := List.getElem_of_mem hs
  exact decide_eq_false (h j hj)

def FindOk (w : World) (base : Nat) (A : List KSt) (x : ByteArray) (r : Ending) (w' : World) : Prop :=
  ∃ v', r = .returned (.tuple #[v', .int .i64 (atK A x : Nat)]) ∧ Own w' base 38 5 v' (withK A x).length ((withK A x).flatMap scells) ∧ Below base w w'

theorem find22 (A : List KSt) (x : ByteArray) (w : World) (base : Nat) (v : Value) (h : Own w base 38 5 v A.length (A.flatMap scells)) (hbase : base ≤ w.heap.size) (hl : A.length ≤ 1000) :
    Calls Try.prog 22 #[v, .string x] w (FindOk w base A x) := by
  obtain ⟨oa, c, rfl, hR⟩ := Own.rws h rfl
  have H := Lib.hid h; have HR := Lib.hid hR; have HL := Lib.hid hl; have HBASE := Lib.hid hbase; clear h hR hl hbase
  go_enter Try.func22, Try.ntmps22
  go_wp2
  go_loopw [6] (fun i wr => ∃ k : Nat, k ≤ A.length ∧ i = .int .i64 k ∧ Hid (∀ j (hj : j < A.length), j < k → A[j].1 ≠ x) ∧ Hid (Below w.heap.size w wr)) (fun i _ => A.length - (intOf i).toNat)
  case atStart => exact ⟨0, by omega, rfl, Lib.hid (fun j _ h => by omega), by (with_reducible try refine Lib.hid ?_); (repeat (with_reducible first | assumption | exact Below.refl _ _ | apply Below.drew | apply Below.drewN' | apply Below.setCell | apply Below.alloc)) <;> (try simp [length_fillTo, length_turnTo]) <;> (try omega)⟩
  case round =>
    obtain ⟨k, hk, rfl, hS, hbel⟩ := hrel
    by_cases hlt : k < A.length
    · have hi1 : (k : Int) < (A.length : Int) := by omega
      have rk : IntKind.i64.wrap ((k : Int) + 1) = ((k + 1 : Nat) : Int) := by
        have h1 := HL.out
        rw [IntKind.wrap_i64]; omega
      obtain ⟨b1, p1, rfl, hb1, e0, e1, e2, e3, e4⟩ := (HR.out.rows.below hbel.out).ks hlt
      have HA : Hid (A[k].1 = x → atK A x = k) := atK_at x A k hlt hS.out
      have HS2 : Hid (A[k].1 ≠ x → ∀ j (h : j < A.length), j < k + 1 → A[j].1 ≠ x) := by
        intro ht j hj hjk
        by_cases e : j = k
        · subst e; exact ht
        · exact hS.out j hj (by omega)
      obtain ⟨q1, hq1'⟩ : ∃ q, A[k] = q := ⟨_, rfl⟩
      rw [hq1'] at e0 e1 e2 e3 e4 HA HS2
      clear hq1'
      obtain ⟨t, s⟩ := q1
      simp only at e0 e1 e2 e3 e4 HA HS2
      by_cases ht : t = x
      · subst ht
        have HA2 := Lib.hid (HA.out rfl)
        have hO := H.out.later hbel.out
        have hW : withK A t = A := by unfold withK; rw [HA2.out, if_pos hlt]
        have HO := Lib.hid hO; have HW := Lib.hid hW
        have hb5 : Below base w wr := hbel.out.mono HBASE.out
        have HB5 := Lib.hid hb5
        clear hS HS2 HA hO hW hb5 hbel
        go_wp2
        refine bodyPost_ret (v := .tuple #[.slice (some ⟨b1, p1, none⟩) A.length c, .int .i64 (k : Int)]) (by simp [results, Try.results22, go_sem]) rfl ⟨_, by rw [HA2.out], by rw [HW.out]; exact HO.out, HB5.out⟩
      · have hne := strne ht
        have HS3 := Lib.hid (HS2.out ht)
        clear hS HS2 HA
        go_wp2
        go_roundw
        case measure => (simp [intOf]) <;> omega
        case rel => exact ⟨k + 1, by omega, rfl, HS3, hbel⟩
    · obtain rfl : k = A.length := by omega
      have hAt := atK_end x A (fun j hj => hS.out j hj hj)
      have hW : withK A x = A ++ [(x, st0)] := by unfold withK; rw [hAt, if_neg (by omega)]
      have hal : Below wr.heap.size wr (wr.alloc (.cells (scells (x, st0)).toArray 38)) := (Below.refl _ _).alloc (Nat.le_refl _) _
      have hN : Blk (wr.alloc (.cells (scells (x, st0)).toArray 38)) wr.heap.size (scells (x, st0)) := Blk.new' rfl
      have hO := (H.out.later hbel.out).later hal
      have hb5 : Below base w (wr.alloc (.cells (scells (x, st0)).toArray 38)) := (below_step hbel.out hal).mono HBASE.out
      have hsz : base ≤ (wr.alloc (.cells (scells (x, st0)).toArray 38)).heap.size := Nat.le_trans HBASE.out hb5.size
      have HAT := Lib.hid hAt; have HW := Lib.hid hW; have HN := Lib.hid hN; have HO := Lib.hid hO; have HB5 := Lib.hid hb5; have HSZ := Lib.hid hsz
      clear hS hAt hW hN hO hb5 hal hbel hsz
      go_wp2_with (refine stop_append rfl ?_)
      have hlen := HL.out
      refine ⟨wpList_app el47 rfl (by rfl) (by rfl) HO.out (by rfl) (m := 1) rfl HN.out.cells (by simp [scells, Value.oneCell']) (by simp [maxLen]; omega) (by omega) HSZ.out ?_⟩
      intro v4 W4 hO4 hg4
      have hb4 := HO.out.below hg4 HB5.out (Nat.le_refl _) HSZ.out
      have HO4 := Lib.hid hO4; have HB4 := Lib.hid hb4
      clear hO4 hg4 hb4 hlen HO HN HB5
      go_wp2
      refine bodyPost_ret (v := .tuple #[v4, .int .i64 (A.length : Int)]) (by simp [results, Try.results22, go_sem]) rfl ⟨_, by rw [HAT.out], ?_, HB4.out⟩
      rw [HW.out]
      simpa [scells] using HO4.out
end Go.Proofs.Ytnfkjicoielpnaa
