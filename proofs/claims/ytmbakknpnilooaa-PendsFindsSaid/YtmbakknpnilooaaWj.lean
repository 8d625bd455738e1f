/-
  Walks: the places of requests of which something holds.
-/
import Derived.Test.YtmbakknpnilooaaWi
namespace Go.Proofs.Ytmbakknpnilooaa
open Go.RowKit Go.Proofs.Ytmbakknpnilooaa.Plan Go.Proofs.Ytmbakknpnilooaa.Eager
set_option maxHeartbeats 2000000
set_option maxRecDepth 20000
set_option linter.unusedVariables false
set_option linter.unusedSimpArgs false


def whoD (a b : En) : Bool := decide (a.name = b.name) && decide (a.id = b.id)
theorem who42 (a b : En) (w : World) : Calls Try.prog 42 #[.agg a.cells.toArray, .agg b.cells.toArray] w fun r w' => r = .returned (.bool (whoD a b)) ∧ Below w.heap.size w w' := by
  obtain ⟨an, ai, af, at', ax, ag⟩ := a
  obtain ⟨bn, bi, bf, bt, bx, bg⟩ := b
  have HW : Hid (whoD ⟨an, ai, af, at', ax, ag⟩ ⟨bn, bi, bf, bt, bx, bg⟩ = (decide (an = bn) && decide (ai = bi))) := rfl
  simp only [En.cells]
  by_cases h1 : an = bn
  · subst h1
    by_cases h2 : ai = bi
    · subst h2
      go_enter Try.func42, Try.ntmps42
      go_wp2
      refine bodyPost_ret (v := .bool true) (by simp [results, Try.results42, go_sem]) rfl ⟨by rw [HW.out]; simp, by (with_reducible try refine Lib.hid ?_); (repeat (with_reducible first | assumption | exact Below.refl _ _ | apply Below.drew | apply Below.drewN' | apply Below.setCell | apply Below.alloc)) <;> (try simp [length_fillTo, length_turnTo]) <;> (try omega)⟩
    · have h2' : ¬ (ai : Int) = (bi : Int) := by omega
      go_enter Try.func42, Try.ntmps42
      go_wp2
      refine bodyPost_ret (v := .bool false) (by simp [results, Try.results42, go_sem]) rfl ⟨by rw [HW.out]; simp [h2], by (with_reducible try refine Lib.hid ?_); (repeat (with_reducible first | assumption | exact Below.refl _ _ | apply Below.drew | apply Below.drewN' | apply Below.setCell | apply Below.alloc)) <;> (try simp [length_fillTo, length_turnTo]) <;> (try omega)⟩
  · have hne := strne h1
    go_enter Try.func42, Try.ntmps42
    go_wp2
    refine bodyPost_ret (v := .bool false) (by simp [results, Try.results42, go_sem]) rfl ⟨by rw [HW.out]; simp [h1], by (with_reducible try refine Lib.hid ?_); (repeat (with_reducible first | assumption | exact Below.refl _ _ | apply Below.drew | apply Below.drewN' | apply Below.setCell | apply Below.alloc)) <;> (try simp [length_fillTo, length_turnTo]) <;> (try omega)⟩
theorem refWho43 (a b : En) (w : World) : Calls Try.prog 43 #[.agg a.cells.toArray, .agg b.cells.toArray] w fun r w' => r = .returned (.bool (whoD a b)) ∧ Below w.heap.size w w' := by
  obtain ⟨an, ai, af, at', ax, ag⟩ := a
  obtain ⟨bn, bi, bf, bt, bx, bg⟩ := b
  have HW : Hid (whoD ⟨an, ai, af, at', ax, ag⟩ ⟨bn, bi, bf, bt, bx, bg⟩ = (decide (an = bn) && decide (ai = bi))) := rfl
  simp only [En.cells]
  by_cases h1 : an = bn
  · subst h1
    by_cases h2 : ai = bi
    · subst h2
      go_enter Try.func43, Try.ntmps43
      go_wp2
      refine bodyPost_ret (v := .bool true) (by simp [results, Try.results43, go_sem]) rfl ⟨by rw [HW.out]; simp, by (with_reducible try refine Lib.hid ?_); (repeat (with_reducible first | assumption | exact Below.refl _ _ | apply Below.drew | apply Below.drewN' | apply Below.setCell | apply Below.alloc)) <;> (try simp [length_fillTo, length_turnTo]) <;> (try omega)⟩
    · have h2' : ¬ (ai : Int) = (bi : Int) := by omega
      go_enter Try.func43, Try.ntmps43
      go_wp2
      refine bodyPost_ret (v := .bool false) (by simp [results, Try.results43, go_sem, h2']) rfl ⟨by rw [HW.out]; simp [h2], by (with_reducible try refine Lib.hid ?_); (repeat (with_reducible first | assumption | exact Below.refl _ _ | apply Below.drew | apply Below.drewN' | apply Below.setCell | apply Below.alloc)) <;> (try simp [length_fillTo, length_turnTo]) <;> (try omega)⟩
  · have hne := strne h1
    go_enter Try.func43, Try.ntmps43
    go_wp2
    refine bodyPost_ret (v := .bool false) (by simp [results, Try.results43, go_sem]) rfl ⟨by rw [HW.out]; simp [h1], by (with_reducible try refine Lib.hid ?_); (repeat (with_reducible first | assumption | exact Below.refl _ _ | apply Below.drew | apply Below.drewN' | apply Below.setCell | apply Below.alloc)) <;> (try simp [length_fillTo, length_turnTo]) <;> (try omega)⟩

/-- the places below some place -/
def placesN (p : Pd → Bool) (l : List Pd) : Nat → List Nat
  | 0 => []
  | k + 1 => if (match l[k]? with | some s => p s | none => false) then placesN p l k ++ [k] else placesN p l k
theorem places_yes {p : Pd → Bool} {l : List Pd} {k : Nat} (h : k < l.length) (hp : p l[k] = true) : placesN p l (k + 1) = placesN p l k ++ [k] := by
  simp [placesN, h, hp]
theorem places_no {p : Pd → Bool} {l : List Pd} {k : Nat} (h : k < l.length) (hp : p l[k] = false) : placesN p l (k + 1) = placesN p l k := by
  simp [placesN, h, hp]
theorem places_le (p : Pd → Bool) (l : List Pd) : ∀ k, (placesN p l k).length ≤ k
  | 0 => Nat.le_refl _
  | k + 1 => by
    have := places_le p l k
    have h : ∀ b : Bool, (if b = true then placesN p l k ++ [k] else placesN p l k).length ≤ k + 1 := by
      intro b; cases b <;> simp <;> omega
    exact h _
def IntC (i : Nat) : List Value := [.int .i64 (i : Int)]
def U64C (i : Nat) : List Value := [.int .u64 (i : Int)]
theorem el51 : Elem Try.prog 51 3 1 8 := Elem.of (.int .i64 0) rfl (by kernel_rfl) rfl (by omega)
theorem el47 : Elem Try.prog 47 23 1 8 := Elem.of (.int .u64 0) rfl (by kernel_rfl) rfl (by omega)
/-- numbers in a row -/
def IntsOut (w : World) (xs : List Nat) (e : Ending) (w' : World) : Prop := ∃ oa c, e = .returned (.slice oa xs.length c) ∧ Rws IntC w' oa xs.length c xs ∧ Below w.heap.size w w'
def U64sOut (w : World) (xs : List Nat) (e : Ending) (w' : World) : Prop := ∃ oa c, e = .returned (.slice oa xs.length c) ∧ Rws U64C w' oa xs.length c xs ∧ Below w.heap.size w w'
theorem places39 (g : FuncId) (eg : ∀ args w, (callFunc g args).run Try.prog w = .ok (.enter g args) w) (B : Nat) (p : Pd → Bool) (C : World → Prop) (hC : ∀ W W', C W → Below W.heap.size W W' → C W')
    (hf : ∀ (s : Pd) (W : World), C W → Calls Try.prog g #[.agg s.cells.toArray, .pointer (some ⟨B, 0, none⟩)] W fun r W' => r = .returned (.bool (p s)) ∧ Below W.heap.size W W')
    (l : List Pd) (w : World) (oa : Option Addr) (n c : Nat) (h : Rws Pd.cells w oa n c l) (hw : C w) (hl : l.length ≤ 900) :
    Calls Try.prog 39 #[.slice oa n c, .func (.func g) #[] #[.pointer (some ⟨B, 0, none⟩)]] w (IntsOut w (placesN p l l.length)) := by
  obtain rfl : n = l.length := h.rows.len
  have H := Lib.hid h; have HC := Lib.hid hC; have HF := Lib.hid hf; have HW := Lib.hid hw; have HL := Lib.hid hl; clear h hC hf hw hl
  go_enter Try.func39, Try.ntmps39
  go_wp2
  go_loopw [5, 6, 7, 10] (fun v _ _ u wr => ∃ k : Nat, k ≤ l.length ∧ u = .int .i64 k ∧ Hid (Own wr w.heap.size 3 1 v (placesN p l k).length ((placesN p l k).flatMap IntC)) ∧ Hid (Below w.heap.size w wr)) (fun _ _ _ u _ => l.length - (intOf u).toNat)
  case atStart => exact ⟨0, by omega, rfl, Lib.hid (Own.nil _ _ _ _), by (with_reducible try refine Lib.hid ?_); (repeat (with_reducible first | assumption | exact Below.refl _ _ | apply Below.drew | apply Below.drewN' | apply Below.setCell | apply Below.alloc)) <;> (try simp [length_fillTo, length_turnTo]) <;> (try omega)⟩
  case round =>
    obtain ⟨k, hk, rfl, hO, hB⟩ := hrel
    by_cases hlt : k < l.length
    · have hi1 : (k : Int) < (l.length : Int) := by omega
      have rk : IntKind.i64.wrap ((k : Int) + 1) = ((k + 1 : Nat) : Int) := by
        have h1 := HL.out
        rw [IntKind.wrap_i64]; omega
      obtain ⟨b1, p1, rfl, hA⟩ := (H.out.below hB.out).rows.pd hlt
      have HY := Lib.hid (places_yes (p := p) hlt); have HN := Lib.hid (places_no (p := p) hlt)
      have HLEN : Hid ((placesN p l k).length ≤ 900) := by show _ ≤ _; have := places_le p l k; have := HL.out; omega
      obtain ⟨s, hs⟩ : ∃ s, l[k] = s := ⟨_, rfl⟩
      rw [hs] at hA HY HN
      have HA := Lib.hid hA
      clear hs hA
      obtain ⟨L, hL⟩ : ∃ L, placesN p l k = L := ⟨_, rfl⟩
      rw [hL] at hO HY HN HLEN
      clear hL
      obtain ⟨wA, rfl⟩ : ∃ x, x = wr := ⟨_, rfl⟩
      have hal : Below wA.heap.size wA (wA.alloc (.cells pd0.cells.toArray 32)) := (Below.refl _ _).alloc (Nat.le_refl _) _
      have hZ : Blk (wA.alloc (.cells pd0.cells.toArray 32)) wA.heap.size pd0.cells := Blk.new' rfl
      have HAL := Lib.hid hal; have HZ := Lib.hid hZ
      clear hal hZ
      go_wp2_with (refine stop_load (ty := 32) rfl ?_)
      refine ⟨wpList_load_at rfl rfl HA.out (by rfl) row32 ?_⟩
      go_wp2_with (refine stop_store (ty := 32) rfl ?_)
      refine ⟨wpList_store_blk rfl rfl HZ.out (by rfl) (vs := s.cells) (by rfl) row32 rfl (pd_one s) ?_⟩
      intro W5 hX5 hg5
      have hbk5 := Below.grownB HAL.out hg5 (Nat.le_refl _) HAL.out.size
      have HX := Lib.hid hX5
      have HO5 := Lib.hid (hO.out.later hbk5); have HB5 := Lib.hid (below_step hB.out hbk5)
      clear hX5 hg5 hbk5 HAL HZ HA hO hB
      go_wp2_with (refine stop_load (ty := 32) rfl ?_)
      refine ⟨wpList_load_blk rfl rfl HX.out (by rfl) row32 ?_⟩
      go_wp2_with fail
      refine (HF.out s W5 (HC.out _ _ HW.out HB5.out)).mono ?_
      rintro r WW ⟨rfl, hb⟩
      replace HO5 := Lib.hid (HO5.out.later hb); replace HB5 := Lib.hid (below_step HB5.out hb)
      clear hb HX
      cases hp : p s
      · have HT := Lib.hid (HN.out hp)
        clear HN HY
        go_wp2_with fail
        go_roundw
        case measure => (simp [intOf]) <;> omega
        case rel => exact ⟨k + 1, by omega, rfl, Lib.hid (by rw [HT.out]; exact HO5.out), HB5⟩
      · have HT := Lib.hid (HY.out hp)
        clear HN HY
        have hal : Below WW.heap.size WW (WW.alloc (.cells #[.int .i64 (k : Int)] 3)) := (Below.refl _ _).alloc (Nat.le_refl _) _
        have HNW : Hid (Blk (WW.alloc (.cells #[.int .i64 (k : Int)] 3)) WW.heap.size [.int .i64 (k : Int)]) := Blk.new' rfl
        have HO6 := Lib.hid (HO5.out.later hal); have HB6 := Lib.hid (below_step HB5.out hal)
        clear hal HO5 HB5
        go_wp2_with (refine stop_append rfl ?_)
        have hlen := HLEN.out
        refine ⟨wpList_app el51 rfl (by rfl) (by rfl) HO6.out (by rfl) (m := 1) rfl HNW.out.cells (by simp [Value.oneCell']) (by simp [maxLen]; omega) (by omega) HB6.out.size ?_⟩
        intro v7 W7 hO7 hg7
        have hb7 := HO6.out.below hg7 HB6.out (Nat.le_refl _) HB6.out.size
        have HO7 := Lib.hid hO7; have HB7 := Lib.hid hb7
        clear hO7 hg7 hb7 hlen HO6 HB6 HNW
        go_wp2_with fail
        go_roundw
        case measure => (simp [intOf]) <;> omega
        case rel => exact ⟨k + 1, by omega, rfl, Lib.hid (by rw [HT.out]; simpa [IntC] using HO7.out), HB7⟩
    · obtain rfl : k = l.length := by omega
      obtain ⟨o', c', rfl, hR⟩ := Own.rws hO.out rfl
      have HR := Lib.hid hR
      clear hO hR
      go_wp2
      refine bodyPost_ret (v := .slice o' (placesN p l l.length).length c') (by simp [results, Try.results39, go_sem]) rfl ⟨_, _, rfl, HR.out, hB.out⟩

def lostD (n : Nat) (s : Pd) : Bool := decide (n ≠ 0) && decide (s.sess = n)
def waitD (e : En) (s : Pd) : Bool := decide (s.sess = 0) && whoD s.to e
theorem lost40 (n : Nat) (B : Nat) (s : Pd) (w : World) (hc : w.cell? ⟨B, 0, none⟩ = some (.int .u64 n)) :
    Calls Try.prog 40 #[.agg s.cells.toArray, .pointer (some ⟨B, 0, none⟩)] w fun r w' => r = .returned (.bool (lostD n s)) ∧ Below w.heap.size w w' := by
  have hlt := World.block_lt_of_cell? w ⟨B, 0, none⟩ hc
  have hal : Below w.heap.size w (w.alloc (.cells s.cells.toArray 32)) := (Below.refl _ _).alloc (Nat.le_refl _) _
  have hc2 := cell_later hc hal
  have hX : Blk (w.alloc (.cells s.cells.toArray 32)) w.heap.size s.cells := Blk.new' rfl
  have x5 : (w.alloc (.cells s.cells.toArray 32)).cell? ⟨w.heap.size, 5, none⟩ = some (.int .u64 s.sess) := pd_at hX 5 (by omega)
  have hl2 := hX.lt
  have HB := Lib.hid hal
  have HV : Hid (lostD n s = (decide (n ≠ 0) && decide (s.sess = n))) := rfl
  clear hal hX hc
  by_cases h0 : n = 0
  · have h0' : (n : Int) = 0 := by omega
    have HR : Hid (lostD n s = false) := by show _ = _; rw [HV.out]; simp [h0]
    clear HV h0
    go_enter Try.func40, Try.ntmps40
    go_wp2
    refine bodyPost_ret (v := .bool false) (by simp [results, Try.results40, go_sem]) rfl ⟨by rw [HR.out], HB.out⟩
  · have h0' : ¬ (n : Int) = 0 := by omega
    by_cases h2 : s.sess = n
    · have HR : Hid (lostD n s = true) := by show _ = _; rw [HV.out]; simp [h0, h2]
      have h2' : (s.sess : Int) = (n : Int) := by omega
      clear HV h2
      go_enter Try.func40, Try.ntmps40
      go_wp2
      refine bodyPost_ret (v := .bool true) (by simp [results, Try.results40, go_sem, h0, h0', h2']) rfl ⟨by rw [HR.out], HB.out⟩
    · have HR : Hid (lostD n s = false) := by show _ = _; rw [HV.out]; simp [h2]
      have h2' : ¬ (s.sess : Int) = (n : Int) := by omega
      clear HV h2
      go_enter Try.func40, Try.ntmps40
      go_wp2
      refine bodyPost_ret (v := .bool false) (by simp [results, Try.results40, go_sem, h0, h0', h2']) rfl ⟨by rw [HR.out], HB.out⟩
theorem waits41 (e : En) (B : Nat) (s : Pd) (w : World) (hB : Blk w B e.cells) :
    Calls Try.prog 41 #[.agg s.cells.toArray, .pointer (some ⟨B, 0, none⟩)] w fun r w' => r = .returned (.bool (waitD e s)) ∧ Below w.heap.size w w' := by
  have hal : Below w.heap.size w (w.alloc (.cells s.cells.toArray 32)) := (Below.refl _ _).alloc (Nat.le_refl _) _
  have hY := hB.later hal
  have hX : Blk (w.alloc (.cells s.cells.toArray 32)) w.heap.size s.cells := Blk.new' rfl
  have HB := Lib.hid hal
  have HV : Hid (waitD e s = (decide (s.sess = 0) && whoD s.to e)) := rfl
  have hlt := hB.lt
  have x5 : (w.alloc (.cells s.cells.toArray 32)).cell? ⟨w.heap.size, 5, none⟩ = some (.int .u64 s.sess) := pd_at hX 5 (by omega)
  have hl2 := hX.lt
  have HX := Lib.hid hX; have HY := Lib.hid hY
  clear hal hX hY hB
  by_cases h1 : s.sess = 0
  · have HR : Hid (waitD e s = whoD s.to e) := by show _ = _; rw [HV.out]; simp [h1]
    have h1' : (s.sess : Int) = 0 := by omega
    clear HV h1
    go_enter Try.func41, Try.ntmps41
    go_wp2_with (refine stop_load (ty := 25) rfl ?_)
    refine ⟨wpList_load_at_w (by rfl) rfl HX.out.at_.to (by rfl) row25 ?_⟩
    go_wp2_with (refine stop_load (ty := 25) rfl ?_)
    refine ⟨wpList_load_blk_w (by rfl) rfl HY.out (by rfl) row25 ?_⟩
    go_wp2_with fail
    refine (who42 s.to e _).mono ?_
    rintro r w1 ⟨rfl, hb⟩
    have HB2 := Lib.hid (below_step HB.out hb)
    clear hb HB x5 HX HY
    go_wp2
    refine bodyPost_ret (v := .bool (whoD s.to e)) (by simp [results, Try.results41, go_sem]) rfl ⟨by rw [HR.out], HB2.out⟩
  · have HR : Hid (waitD e s = false) := by show _ = _; rw [HV.out]; simp [h1]
    have h1' : ¬ (s.sess : Int) = 0 := by omega
    clear HV h1
    go_enter Try.func41, Try.ntmps41
    go_wp2
    refine bodyPost_ret (v := .bool false) (by simp [results, Try.results41, go_sem, h1']) rfl ⟨by rw [HR.out], HB.out⟩
theorem eg40 : ∀ args w, (callFunc 40 args).run Try.prog w = .ok (.enter 40 args) w := fun args w => by simp
theorem eg41 : ∀ args w, (callFunc 41 args).run Try.prog w = .ok (.enter 41 args) w := fun args w => by simp
theorem lost23 (l : List Pd) (n : Nat) (w : World) (oa : Option Addr) (m c : Nat) (h : Rws Pd.cells w oa m c l) (hl : l.length ≤ 900) :
    Calls Try.prog 23 #[.slice oa m c, .int .u64 n] w (IntsOut w (placesN (lostD n) l l.length)) := by
  have hal : Below w.heap.size w (w.alloc (.cells #[.int .u64 n] 23)) := (Below.refl _ _).alloc (Nat.le_refl _) _
  have hX : Blk (w.alloc (.cells #[.int .u64 n] 23)) w.heap.size [.int .u64 n] := Blk.new' rfl
  have hc := hX.at' 0 (by simp)
  simp only [List.getElem_cons_zero] at hc
  have HC := places39 40 eg40 w.heap.size (lostD n) (fun W => W.cell? ⟨w.heap.size, 0, none⟩ = some (.int .u64 n)) (fun W W' h hb => cell_later h hb) (fun s W h => lost40 n _ s W h) l _ oa m c (h.below hal) hc hl
  have HB := Lib.hid hal
  clear hal hX hc h hl
  go_enter Try.func23, Try.ntmps23
  go_wp2_with fail
  refine HC.mono ?_
  rintro r w1 ⟨o', c', rfl, hR, hb⟩
  have HB2 := Lib.hid (below_step HB.out hb); have HR := Lib.hid hR
  clear HC hb HB hR
  go_wp2
  refine bodyPost_ret (v := .slice o' (placesN (lostD n) l l.length).length c') (by simp [results, Try.results23, go_sem]) rfl ⟨_, _, rfl, HR.out, HB2.out⟩
theorem waits25 (l : List Pd) (e : En) (w : World) (oa : Option Addr) (m c : Nat) (h : Rws Pd.cells w oa m c l) (hl : l.length ≤ 900) :
    Calls Try.prog 25 #[.slice oa m c, .agg e.cells.toArray] w (IntsOut w (placesN (waitD e) l l.length)) := by
  have hal : Below w.heap.size w (w.alloc (.cells e.cells.toArray 25)) := (Below.refl _ _).alloc (Nat.le_refl _) _
  have hX : Blk (w.alloc (.cells e.cells.toArray 25)) w.heap.size e.cells := Blk.new' rfl
  have HC := places39 41 eg41 w.heap.size (waitD e) (fun W => Blk W w.heap.size e.cells) (fun W W' h hb => h.later hb) (fun s W h => waits41 e _ s W h) l _ oa m c (h.below hal) hX hl
  have HB := Lib.hid hal
  clear hal hX h hl
  go_enter Try.func25, Try.ntmps25
  go_wp2_with fail
  refine HC.mono ?_
  rintro r w1 ⟨o', c', rfl, hR, hb⟩
  have HB2 := Lib.hid (below_step HB.out hb); have HR := Lib.hid hR
  clear HC hb HB hR
  go_wp2
  refine bodyPost_ret (v := .slice o' (placesN (waitD e) l l.length).length c') (by simp [results, Try.results25, go_sem]) rfl ⟨_, _, rfl, HR.out, HB2.out⟩
end Go.Proofs.Ytmbakknpnilooaa
