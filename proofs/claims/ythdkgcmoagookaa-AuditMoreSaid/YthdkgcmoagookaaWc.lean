/-
  Names: whether a text is one (the program's, and the document's).
-/
import Derived.Test.YthdkgcmoagookaaWb
import Derived.WalkMore
namespace Go.Proofs.Ythdkgcmoagookaa
open Go.RowKit Go.Proofs.Ythdkgcmoagookaa.Plan Go.Proofs.Ythdkgcmoagookaa.Eager
set_option maxHeartbeats 2000000
set_option maxRecDepth 20000
set_option linter.unusedVariables false
set_option linter.unusedSimpArgs false

def smallD (c : UInt8) : Bool := decide (97 ≤ c.toNat) && decide (c.toNat ≤ 122)
def charD (c : UInt8) : Bool := smallD c || ((decide (48 ≤ c.toNat) && decide (c.toNat ≤ 57)) || decide (c.toNat = 45))
def nameD (s : ByteArray) : Bool := decide (1 ≤ s.size) && (decide (s.size ≤ 16) && (smallD (s.data.toList.getD 0 0) && s.data.toList.all charD))

theorem small45 (c : UInt8) (w : World) : Calls Try.prog 45 #[.int .u8 (c.toNat : Int)] w fun r w' => r = .returned (.bool (smallD c)) ∧ Below w.heap.size w w' := by
  have HV : Hid (smallD c = (decide (97 ≤ c.toNat) && decide (c.toNat ≤ 122))) := rfl
  obtain ⟨n, hn⟩ : ∃ n, c.toNat = n := ⟨_, rfl⟩
  rw [hn] at HV ⊢
  by_cases h1 : 97 ≤ n
  · have h1' : (97 : Int) ≤ (n : Int) := by omega
    by_cases h2 : n ≤ 122
    · have h2' : (n : Int) ≤ 122 := by omega
      have HR : Hid (smallD c = true) := by show _ = _; rw [HV.out]; simp [h1, h2]
      clear HV h1 h2 hn
      go_enter Try.func45, Try.ntmps45
      go_wp2
      refine bodyPost_ret (v := .bool true) (by simp [results, Try.results45, go_sem]) rfl ⟨by rw [HR.out], Below.refl _ _⟩
    · have h2' : ¬ (n : Int) ≤ 122 := by omega
      have HR : Hid (smallD c = false) := by show _ = _; rw [HV.out]; simp [h2]
      clear HV h1 h2 hn
      go_enter Try.func45, Try.ntmps45
      go_wp2
      refine bodyPost_ret (v := .bool false) (by simp [results, Try.results45, go_sem, h2']) rfl ⟨by rw [HR.out], Below.refl _ _⟩
  · have h1' : ¬ (97 : Int) ≤ (n : Int) := by omega
    have HR : Hid (smallD c = false) := by show _ = _; rw [HV.out]; simp [h1]
    clear HV h1 hn
    go_enter Try.func45, Try.ntmps45
    go_wp2
    refine bodyPost_ret (v := .bool false) (by simp [results, Try.results45, go_sem, h1']) rfl ⟨by rw [HR.out], Below.refl _ _⟩

theorem in44 (c : UInt8) (s : ByteArray) (hs : s.size ≤ 100) (w : World) : Calls Try.prog 44 #[.int .u8 (c.toNat : Int), .string s] w fun r w' => r = .returned (.bool (s.data.toList.contains c)) ∧ Below w.heap.size w w' := by
  have HS := Lib.hid hs
  go_enter Try.func44, Try.ntmps44
  go_wp2
  go_loopw [5] (fun i wr => ∃ (k : Nat), k ≤ s.size ∧ i = .int .i64 k ∧ Hid (∀ j (h : j < s.data.toList.length), j < k → s.data.toList[j] ≠ c) ∧ Hid (Below w.heap.size w wr)) (fun i _ => s.size - (intOf i).toNat)
  case atStart => exact ⟨0, by omega, rfl, Lib.hid (fun j _ h => by omega), by (with_reducible try refine Lib.hid ?_); (repeat (with_reducible first | assumption | exact Below.refl _ _ | apply Below.drew | apply Below.drewN' | apply Below.setCell | apply Below.alloc)) <;> (try simp [length_fillTo, length_turnTo]) <;> (try omega)⟩
  case round =>
    obtain ⟨k, hk, rfl, hN, hbel⟩ := hrel
    by_cases hlt : k < s.size
    · have hi1 : (k : Int) < (s.size : Int) := by omega
      have rk : IntKind.i64.wrap ((k : Int) + 1) = ((k + 1 : Nat) : Int) := by
        rw [IntKind.wrap_i64]; have := HS.out; omega
      have hl : k < s.data.toList.length := by simpa using hlt
      have HG : Hid (s.data.toList[k] = s[k]) := by show _ = _; simp; rfl
      by_cases hc : s[k] = c
      · have hq : ((s[k].toNat : Int) == (c.toNat : Int)) = true := by rw [hc]; simp
        have HR : Hid (s.data.toList.contains c = true) := by
          show _ = _
          rw [List.contains_iff_mem, ← hc, ← HG.out]
          exact List.getElem_mem hl
        clear hN HG hc hs
        go_wp2
        refine bodyPost_ret (v := .bool true) (by simp [results, Try.results44, go_sem]) rfl ⟨by rw [HR.out], hbel.out⟩
      · have hq : ((s[k].toNat : Int) == (c.toNat : Int)) = false := by
          simp; intro h; apply hc; exact UInt8.toNat_inj.1 (by omega)
        have HN : Hid (∀ j (h : j < s.data.toList.length), j < k + 1 → s.data.toList[j] ≠ c) := fun j hj hk2 => by
          by_cases e : j = k
          · subst e; rw [HG.out]; exact hc
          · exact hN.out j hj (by omega)
        clear hN HG hc hs
        go_wp2
        go_roundw
        case measure => (simp [intOf]) <;> omega
        case rel => exact ⟨k + 1, by omega, rfl, HN, hbel⟩
    · obtain rfl : k = s.size := by omega
      have HR : Hid (s.data.toList.contains c = false) := by
        show _ = _
        rw [← Bool.not_eq_true, List.contains_iff_mem]
        intro h
        obtain ⟨j, hj, e⟩ := List.getElem_of_mem h
        exact hN.out j hj (by simpa using hj) e
      clear hN hs
      go_wp2
      refine bodyPost_ret (v := .bool false) (by simp [results, Try.results44, go_sem]) rfl ⟨by rw [HR.out], hbel.out⟩
theorem u8_all (p : UInt8 → Bool) (h : ∀ n : Fin 256, p (UInt8.ofNat n.val) = true) (c : UInt8) : p c = true := by
  have := h ⟨c.toNat, c.toNat_lt⟩
  simpa using this
def a26 : ByteArray := ⟨#[97, 98, 99, 100, 101, 102, 103, 104, 105, 106, 107, 108, 109, 110, 111, 112, 113, 114, 115, 116, 117, 118, 119, 120, 121, 122]⟩
def a37 : ByteArray := ⟨#[97, 98, 99, 100, 101, 102, 103, 104, 105, 106, 107, 108, 109, 110, 111, 112, 113, 114, 115, 116, 117, 118, 119, 120, 121, 122, 48, 49, 50, 51, 52, 53, 54, 55, 56, 57, 45]⟩
theorem in_a26 (c : UInt8) : a26.data.toList.contains c = smallD c := by
  have := u8_all (fun c => a26.data.toList.contains c == smallD c) (by decide +kernel) c
  simpa using this
theorem in_a37 (c : UInt8) : a37.data.toList.contains c = charD c := by
  have := u8_all (fun c => a37.data.toList.contains c == charD c) (by decide +kernel) c
  simpa using this
theorem lowIn (c : UInt8) (w : World) : Calls Try.prog 44 #[.int .u8 (c.toNat : Int), .string ⟨#[97, 98, 99, 100, 101, 102, 103, 104, 105, 106, 107, 108, 109, 110, 111, 112, 113, 114, 115, 116, 117, 118, 119, 120, 121, 122]⟩] w fun r w' => r = .returned (.bool (smallD c)) ∧ Below w.heap.size w w' := by
  have := in44 c a26 (by decide) w
  rw [in_a26] at this
  exact this
theorem charIn (c : UInt8) (w : World) : Calls Try.prog 44 #[.int .u8 (c.toNat : Int), .string ⟨#[97, 98, 99, 100, 101, 102, 103, 104, 105, 106, 107, 108, 109, 110, 111, 112, 113, 114, 115, 116, 117, 118, 119, 120, 121, 122, 48, 49, 50, 51, 52, 53, 54, 55, 56, 57, 45]⟩] w fun r w' => r = .returned (.bool (charD c)) ∧ Below w.heap.size w w' := by
  have := in44 c a37 (by decide) w
  rw [in_a37] at this
  exact this

theorem name_none (s : ByteArray) (h : s.size < 1) : nameD s = false := by unfold nameD; simp; omega
theorem name_long (s : ByteArray) (h : 16 < s.size) : nameD s = false := by unfold nameD; simp; omega
theorem first_eq (s : ByteArray) (h : 0 < s.size) : s.data.toList.getD 0 0 = s[0] := by
  rw [List.getD_eq_getElem?_getD, List.getElem?_eq_getElem (by simpa using h)]; simp; rfl
theorem name_first (s : ByteArray) (h : 0 < s.size) (h1 : smallD s[0] = false) : nameD s = false := by
  unfold nameD; rw [first_eq s h, h1]; simp
theorem at_eq (s : ByteArray) (k : Nat) (h : k < s.size) : s.data.toList[k]'(by simpa using h) = s[k] := by simp; rfl
theorem name_at (s : ByteArray) (k : Nat) (h : k < s.size) (h1 : charD s[k] = false) : nameD s = false := by
  have : s.data.toList.all charD = false := by
    rw [List.all_eq_false]
    exact ⟨s[k], by rw [← at_eq s k h]; exact List.getElem_mem _, by simp [h1]⟩
  unfold nameD; rw [this]; simp
theorem name_all (s : ByteArray) (h0 : 0 < s.size) (h16 : ¬ 16 < s.size) (h1 : smallD s[0] = true) (h : ∀ j (h : j < s.size), charD s[j] = true) : nameD s = true := by
  have : s.data.toList.all charD = true := by
    rw [List.all_eq_true]
    intro x hx
    obtain ⟨j, hj, e⟩ := List.getElem_of_mem hx
    have hj2 : j < s.size := by simpa using hj
    rw [← e, at_eq s j hj2]; exact h j hj2
  unfold nameD; rw [this, first_eq s h0, h1]; simp; omega

theorem refName42 (s : ByteArray) (w : World) : Calls Try.prog 42 #[.string s] w fun r w' => r = .returned (.bool (nameD s)) ∧ Below w.heap.size w w' := by
  by_cases h1 : s.size < 1
  · have HR : Hid (nameD s = false) := name_none s h1
    have h1' : (s.size : Int) < 1 := by omega
    clear h1
    go_enter Try.func42, Try.ntmps42
    go_wp2
    refine bodyPost_ret (v := .bool false) (by simp [results, Try.results42, go_sem]) rfl ⟨by rw [HR.out], Below.refl _ _⟩
  have h0 : 0 < s.size := by omega
  have h1' : ¬ (s.size : Int) < 1 := by omega
  by_cases h2 : 16 < s.size
  · have HR : Hid (nameD s = false) := name_long s h2
    have h2' : (16 : Int) < (s.size : Int) := by omega
    clear h2
    go_enter Try.func42, Try.ntmps42
    go_wp2
    refine bodyPost_ret (v := .bool false) (by simp [results, Try.results42, go_sem]) rfl ⟨by rw [HR.out], Below.refl _ _⟩
  have h2' : ¬ (16 : Int) < (s.size : Int) := by omega
  have HF : Hid (smallD s[0] = false → nameD s = false) := name_first s h0
  have HX : Hid (s.size ≤ 16) := by show _ ≤ _; omega
  have H0 := Lib.hid h0
  clear h1 h2
  go_enter Try.func42, Try.ntmps42
  go_wp2_with fail
  refine (lowIn s[0] _).mono ?_
  rintro r w1 ⟨rfl, hb⟩
  have HB := Lib.hid hb; clear hb
  cases hq : smallD s[0]
  · have HR := Lib.hid (HF.out hq)
    clear HF
    go_wp2
    refine bodyPost_ret (v := .bool false) (by simp [results, Try.results42, go_sem]) rfl ⟨by rw [HR.out], HB.out⟩
  have HQ := Lib.hid hq
  clear HF hq
  go_wp2
  clear h2' h1'
  go_loopw [3] (fun i wr => ∃ (k : Nat), k ≤ s.size ∧ i = .int .i64 k ∧ Hid (∀ j (h : j < s.size), j < k → charD s[j] = true) ∧ Hid (Below w.heap.size w wr)) (fun i _ => s.size - (intOf i).toNat)
  case atStart => exact ⟨0, by omega, rfl, Lib.hid (fun j _ h => by omega), HB⟩
  case round =>
    obtain ⟨k, hk, rfl, hN, hbel⟩ := hrel
    by_cases hlt : k < s.size
    · have hi1 : (k : Int) < (s.size : Int) := by omega
      have rk : IntKind.i64.wrap ((k : Int) + 1) = ((k + 1 : Nat) : Int) := by
        rw [IntKind.wrap_i64]; have := HX.out; omega
      have HF : Hid (charD s[k] = false → nameD s = false) := name_at s k hlt
      have HG : Hid (charD s[k] = true → ∀ j (h : j < s.size), j < k + 1 → charD s[j] = true) := fun hc j hj hk2 => by
        by_cases e : j = k
        · subst e; exact hc
        · exact hN.out j hj (by omega)
      clear hN
      go_wp2_with fail
      refine (charIn s[k] _).mono ?_
      rintro r w2 ⟨rfl, hb⟩
      have HB2 := Lib.hid (below_step hbel.out hb); clear hb hbel
      cases hq : charD s[k]
      · have HR := Lib.hid (HF.out hq)
        clear HF HG
        go_wp2
        refine bodyPost_ret (v := .bool false) (by simp [results, Try.results42, go_sem]) rfl ⟨by rw [HR.out], HB2.out⟩
      · have HG2 := Lib.hid (HG.out hq)
        clear HF HG
        go_wp2
        go_roundw
        case measure => (simp [intOf]) <;> omega
        case rel => exact ⟨k + 1, by omega, rfl, HG2, HB2⟩
    · obtain rfl : k = s.size := by omega
      have HR : Hid (nameD s = true) := name_all s H0.out (by have := HX.out; omega) HQ.out (fun j h => hN.out j h h)
      clear hN
      go_wp2
      refine bodyPost_ret (v := .bool true) (by simp [results, Try.results42, go_sem]) rfl ⟨by rw [HR.out], hbel.out⟩
theorem name43 (s : ByteArray) (w : World) : Calls Try.prog 43 #[.string s] w fun r w' => r = .returned (.bool (nameD s)) ∧ Below w.heap.size w w' := by
  by_cases h1 : s.size < 1
  · have HR : Hid (nameD s = false) := name_none s h1
    have h1' : s.toList = [] := by rw [ByteArray.toList_eq]; exact List.eq_nil_of_length_eq_zero (by simpa using h1)
    clear h1
    go_enter Try.func43, Try.ntmps43
    go_wp2; go_step3; go_wp2
    (try rw [Exit.noGoto_ret]); refine bodyPost_ret (v := .bool false) (by simp [results, Try.results43, go_sem]) rfl ⟨by rw [HR.out], Below.refl _ _⟩
  have h0 : 0 < s.size := by omega
  have h1' : ¬ s.toList = [] := by rw [ByteArray.toList_eq]; intro e; have := congrArg List.length e; rw [Array.length_toList] at this; simp only [ByteArray.size] at h0; simp at this; rw [this] at h0; simp at h0
  have h1'' : s.toList.isEmpty = false := by simpa using h1'
  by_cases h2 : 16 < s.size
  · have HR : Hid (nameD s = false) := name_long s h2
    have h2' : (16 : Int) < (s.size : Int) := by omega
    clear h2
    go_enter Try.func43, Try.ntmps43
    go_wp2; go_step3; go_wp2
    (try rw [Exit.noGoto_ret]); refine bodyPost_ret (v := .bool false) (by simp [results, Try.results43, go_sem]) rfl ⟨by rw [HR.out], Below.refl _ _⟩
  have h2' : ¬ (16 : Int) < (s.size : Int) := by omega
  have HF : Hid (smallD s[0] = false → nameD s = false) := name_first s h0
  have HX : Hid (s.size ≤ 16) := by show _ ≤ _; omega
  have H0 := Lib.hid h0
  clear h1 h2
  go_enter Try.func43, Try.ntmps43
  go_wp2_with fail; go_step3; go_wp2_with fail
  refine (small45 s[0] _).mono ?_
  rintro r w1 ⟨rfl, hb⟩
  have HB := Lib.hid hb; clear hb
  cases hq : smallD s[0]
  · have HR := Lib.hid (HF.out hq)
    clear HF
    go_wp2
    (try rw [Exit.noGoto_ret]); refine bodyPost_ret (v := .bool false) (by simp [results, Try.results43, go_sem]) rfl ⟨by rw [HR.out], HB.out⟩
  have HQ := Lib.hid hq
  clear HF hq
  go_wp2_with fail; go_step3; go_wp2_with fail
  clear h2' h1' h1''
  go_loopw [20] (fun i wr => ∃ (k : Nat), k ≤ s.size ∧ i = .int .i64 k ∧ Hid (∀ j (h : j < s.size), j < k → charD s[j] = true) ∧ Hid (Below w.heap.size w wr)) (fun i _ => s.size - (intOf i).toNat)
  case atStart => exact ⟨0, by omega, rfl, Lib.hid (fun j _ h => by omega), HB⟩
  case round =>
    obtain ⟨k, hk, rfl, hN, hbel⟩ := hrel
    by_cases hlt : k < s.size
    · have hi1 : (k : Int) < (s.size : Int) := by omega
      have rk : IntKind.i64.wrap ((k : Int) + 1) = ((k + 1 : Nat) : Int) := by
        rw [IntKind.wrap_i64]; have := HX.out; omega
      have HF : Hid (charD s[k] = false → nameD s = false) := name_at s k hlt
      have HG : Hid (charD s[k] = true → ∀ j (h : j < s.size), j < k + 1 → charD s[j] = true) := fun hc j hj hk2 => by
        by_cases e : j = k
        · subst e; exact hc
        · exact hN.out j hj (by omega)
      clear hN
      have HC : Hid (charD s[k] = (smallD s[k] || ((decide (48 ≤ s[k].toNat) && decide (s[k].toNat ≤ 57)) || decide (s[k].toNat = 45)))) := rfl
      go_wp2_with fail
      refine (small45 s[k] _).mono ?_
      rintro r w2 ⟨rfl, hb⟩
      have HB2 := Lib.hid (below_step hbel.out hb); clear hb hbel
      cases hq : smallD s[k]
      rotate_left
      · have HG2 := Lib.hid (HG.out (by rw [HC.out, hq]; rfl))
        clear HF HG HC
        go_wp2
        go_roundw
        case measure => (simp [intOf]) <;> omega
        case rel => exact ⟨k + 1, by omega, rfl, HG2, HB2⟩
      by_cases hd : 48 ≤ s[k].toNat
      · have hd' : (48 : Int) ≤ (s[k].toNat : Int) := by omega
        by_cases he : s[k].toNat ≤ 57
        · have he' : (s[k].toNat : Int) ≤ 57 := by omega
          have HG2 := Lib.hid (HG.out (by rw [HC.out]; simp [hd, he]))
          clear HF HG HC hd he
          go_wp2
          go_roundw
          case measure => (simp [intOf]) <;> omega
          case rel => exact ⟨k + 1, by omega, rfl, HG2, HB2⟩
        · have he' : ¬ (s[k].toNat : Int) ≤ 57 := by omega
          have hf' : ((s[k].toNat : Int) == 45) = false := by simp; omega
          have HR := Lib.hid (HF.out (by rw [HC.out, hq]; simp; omega))
          clear HF HG HC hd he
          go_wp2
          (try rw [Exit.noGoto_ret]); refine bodyPost_ret (v := .bool false) (by simp [results, Try.results43, go_sem]) rfl ⟨by rw [HR.out], HB2.out⟩
      · have hd' : ¬ (48 : Int) ≤ (s[k].toNat : Int) := by omega
        by_cases he : s[k].toNat = 45
        · have he' : ((s[k].toNat : Int) == 45) = true := by simp; omega
          have HG2 := Lib.hid (HG.out (by rw [HC.out]; simp [he]))
          clear HF HG HC hd he
          go_wp2
          go_roundw
          case measure => (simp [intOf]) <;> omega
          case rel => exact ⟨k + 1, by omega, rfl, HG2, HB2⟩
        · have he' : ((s[k].toNat : Int) == 45) = false := by simp; omega
          have HR := Lib.hid (HF.out (by rw [HC.out, hq]; simp; omega))
          clear HF HG HC hd he
          go_wp2
          (try rw [Exit.noGoto_ret]); refine bodyPost_ret (v := .bool false) (by simp [results, Try.results43, go_sem]) rfl ⟨by rw [HR.out], HB2.out⟩
    · obtain rfl : k = s.size := by omega
      have HR : Hid (nameD s = true) := name_all s H0.out (by have := HX.out; omega) HQ.out (fun j h => hN.out j h h)
      clear hN
      go_wp2
      (try rw [Exit.noGoto_ret]); refine bodyPost_ret (v := .bool true) (by simp [results, Try.results43, go_sem]) rfl ⟨by rw [HR.out], hbel.out⟩

end Go.Proofs.Ythdkgcmoagookaa
