/-
  Plain law and walk: whether a number is among others.
-/
import Derived.Test.YtbkgjijhjlcojaaWl
namespace Go.Proofs.Ytbkgjijhjlcojaa
open Go.RowKit Go.Proofs.Ytbkgjijhjlcojaa.Eager
set_option maxHeartbeats 400000
set_option linter.unusedVariables false
set_option linter.unusedSimpArgs false

/-- the greatest so far -/
def topA (T : Nat) (l : List Nat) : Nat := l.foldl max T

/-- whether a number is among others, when none ahead of it was 128 above it, or more -/
def amongA (n : Int) : Nat → List Nat → Bool
  | _, [] => false
  | T, x :: l => (((x : Int) == n) && decide ((T : Int) - n < 128)) || amongA n (max T x) l

theorem topA_append (T : Nat) (l m : List Nat) : topA T (l ++ m) = topA (topA T l) m := by simp [topA, List.foldl_append]

theorem amongA_append (n : Int) : ∀ (T : Nat) (l m : List Nat), amongA n T (l ++ m) = (amongA n T l || amongA n (topA T l) m)
  | T, [], m => by simp [amongA, topA]
  | T, x :: l, m => by
    rw [List.cons_append, amongA, amongA, amongA_append n (max T x) l m, Bool.or_assoc]
    rfl

theorem amongA_snoc (n : Int) (T : Nat) (l : List Nat) (x : Nat) : amongA n T (l ++ [x]) = (amongA n T l || (((x : Int) == n) && decide (((topA T l : Nat) : Int) - n < 128))) := by
  rw [amongA_append]; simp [amongA]

theorem topA_snoc (T : Nat) (l : List Nat) (x : Nat) : topA T (l ++ [x]) = max (topA T l) x := by rw [topA_append]; rfl

/-- a number of 16 bits as a value -/
def U16 (n : Nat) : Value := .int .u16 (n : Int)

theorem topA_lt (l : List Nat) (h : ∀ x ∈ l, x < 65536) : ∀ T, T < 65536 → topA T l < 65536 := by
  induction l with
  | nil => intro T hT; exact hT
  | cons x l ih =>
    intro T hT
    show topA (max T x) l < 65536
    exact ih (fun y hy => h y (by simp [hy])) _ (by have := h x (by simp); omega)

theorem among13 (oa : Option Addr) (c len : Nat) (l : List Nat) (n : Int) (w : World) (hl : Hid (len = l.length)) (hc : Hid (Cells w oa (l.map U16))) (h16 : Hid (∀ x ∈ l, x < 65536)) (hn : Hid (1 ≤ n ∧ n ≤ 65536)) (hsm : len ≤ 100) :
    Calls Try.prog 13 #[.slice oa len c, .int .i64 n] w fun r w' => r = .returned (.bool (amongA n 0 l)) ∧ w' = w := by
  go_enter Try.func13, Try.ntmps13
  go_wp2
  go_loopw [5, 10] (fun t i wr => ∃ k : Nat, k ≤ len ∧ i = .int .i64 k ∧ t = .int .i64 ((topA 0 (l.take k) : Nat) : Int) ∧ amongA n 0 (l.take k) = false ∧ wr = w) (fun _ i _ => len - (intOf i).toNat)
  case atStart => exact ⟨0, by omega, rfl, rfl, rfl, rfl⟩
  case round =>
    obtain ⟨k, hk, rfl, rfl, hz, rfl⟩ := hrel
    have HZ := Lib.hid hz; clear hz
    by_cases hlt : k < len
    · have hkl : k < l.length := by have := hl.out; omega
      obtain ⟨b, o, rfl, hb, hcell⟩ := hc.out.at' (i := k) (by simpa using hkl)
      rw [List.getElem_map] at hcell
      unfold U16 at hcell
      have hx16 := h16.out l[k] (List.getElem_mem hkl)
      have hT := topA_lt (l.take k) (fun x hx => h16.out x (List.mem_of_mem_take hx)) 0 (by omega)
      have hst : l.take (k + 1) = l.take k ++ [l[k]] := List.take_succ_eq_append_getElem hkl
      have HS := Lib.hid (show amongA n 0 (l.take (k + 1)) = ((((l[k] : Nat) : Int) == n) && decide (((topA 0 (l.take k) : Nat) : Int) - n < 128)) from by rw [hst, amongA_snoc, HZ.out, Bool.false_or])
      have HTS := Lib.hid (show topA 0 (l.take (k + 1)) = max (topA 0 (l.take k)) l[k] from by rw [hst, topA_snoc])
      have HA := Lib.hid (amongA_append n 0 (l.take (k + 1)) (l.drop (k + 1)))
      rw [List.take_append_drop] at HA
      clear hst
      generalize topA 0 (l.take k) = T at *
      generalize l[k] = x at *
      obtain ⟨d, hd⟩ : ∃ d : Int, (T : Int) - n = d := ⟨_, rfl⟩
      rw [hd] at HS
      have hw : IntKind.i64.wrap ((T : Int) - n) = d := by have := hn.out; rw [IntKind.wrap_i64]; omega
      have hxw : IntKind.i64.wrap (x : Int) = (x : Int) := by rw [IntKind.wrap_i64]; omega
      have HD := Lib.hid hd
      have HX := Lib.hid hx16; have HT := Lib.hid hT; clear hx16 hT hd
      cases h1 : ((x : Int) == n) with
      | true =>
        cases h2 : decide (d < 128) with
        | true =>
          rw [h1, h2] at HS
          go_wp2
          go_ret
          refine ⟨congrArg (fun x => Ending.returned (.bool x)) ?_, rfl⟩
          rw [HA.out, HS.out]; rfl
        | false =>
          rw [h1, h2] at HS
          go_wp2
          go_roundw
          case rel => exact ⟨k + 1, by omega, by go_num, by rw [HTS.out]; congr 1; split <;> omega, by rw [HS.out]; rfl, trivial⟩
          case measure => simp [intOf]; omega
      | false =>
        rw [h1] at HS
        go_wp2
        go_roundw
        case rel => exact ⟨k + 1, by omega, by go_num, by rw [HTS.out]; congr 1; split <;> omega, by rw [HS.out]; rfl, trivial⟩
        case measure => simp [intOf]; omega
    · have hkn : k = l.length := by have := hl.out; omega
      have hkl : (k : Int) = (len : Int) := by have := hl.out; omega
      have HK := Lib.hid hkn; clear hkn
      go_wp2
      go_ret
      refine ⟨congrArg (fun x => Ending.returned (.bool x)) ?_, rfl⟩
      have e := HZ.out
      rw [List.take_of_length_le (by have := HK.out; omega)] at e
      exact e.symm
end Go.Proofs.Ytbkgjijhjlcojaa
