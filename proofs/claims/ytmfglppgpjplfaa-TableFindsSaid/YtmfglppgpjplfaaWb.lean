/-
  Walks: where the first session stands of which something holds.
-/
import Derived.Test.YtmfglppgpjplfaaWa
namespace Go.Proofs.Ytmfglppgpjplfaa
open Go.RowKit
set_option maxHeartbeats 1000000
set_option maxRecDepth 20000
set_option linter.unusedVariables false
set_option linter.unusedSimpArgs false

def idxD (p : Ses → Bool) (l : List Ses) : Int := match l.findIdx? p with
  | some i => (i : Int)
  | none => -1
theorem idxD_at (p : Ses → Bool) (l : List Ses) (k : Nat) (hk : k < l.length) (h : ∀ j (hj : j < l.length), j < k → p l[j] = false) (h1 : p l[k] = true) : idxD p l = (k : Int) := by
  have e : l.findIdx? p = some k := by
    rw [List.findIdx?_eq_some_iff_getElem]
    exact ⟨hk, h1, fun j hj => by simp [h j (by omega) hj]⟩
  unfold idxD; rw [e]
theorem idxD_none (p : Ses → Bool) (l : List Ses) (h : ∀ j (hj : j < l.length), p l[j] = false) : idxD p l = -1 := by
  have e : l.findIdx? p = none := by
    rw [List.findIdx?_eq_none_iff]
    intro s hs
    obtain ⟨j, hj, rfl⟩ := List.getElem_of_mem hs
    exact h j hj
  unfold idxD; rw [e]
theorem idxD_ge (p : Ses → Bool) (l : List Ses) : (decide (0 ≤ idxD p l)) = l.any p := by
  unfold idxD
  cases h : l.findIdx? p with
  | none =>
    rw [List.findIdx?_eq_none_iff] at h
    have : l.any p = false := by rw [List.any_eq_false]; intro s hs; simp [h s hs]
    rw [this]; rfl
  | some i =>
    rw [List.findIdx?_eq_some_iff_getElem] at h
    obtain ⟨hi, h1, -⟩ := h
    have : l.any p = true := List.any_eq_true.2 ⟨l[i], List.getElem_mem hi, h1⟩
    rw [this]
    exact decide_eq_true (by simp only; omega)

theorem indexFunc34 (g : FuncId) (eg : ∀ args w, (callFunc g args).run Try.prog w = .ok (.enter g args) w) (B : Nat) (p : Ses → Bool) (C : World → Prop) (hC : ∀ W W', C W → Below W.heap.size W W' → C W')
    (hf : ∀ (s : Ses) (W : World), C W → Calls Try.prog g #[.agg s.cells.toArray, .pointer (some ⟨B, 0, none⟩)] W fun r W' => r = .returned (.bool (p s)) ∧ Below W.heap.size W W')
    (l : List Ses) (w : World) (oa : Option Addr) (n c : Nat) (h : RSes w oa n c l) (hw : C w) :
    Calls Try.prog 34 #[.slice oa n c, .func (.func g) #[] #[.pointer (some ⟨B, 0, none⟩)]] w fun r w' => r = .returned (.int .i64 (idxD p l)) ∧ Below w.heap.size w w' := by
  obtain rfl : n = l.length := h.rows.len
  have H := Lib.hid h; have HC := Lib.hid hC; have HF := Lib.hid hf; have HW := Lib.hid hw; clear h hC hf hw
  go_enter Try.func34, Try.ntmps34
  go_wp2
  go_loopw [5, 8] (fun _ i wr => ∃ k : Nat, k ≤ l.length ∧ i = .int .i64 k ∧ Hid (∀ j (h : j < l.length), j < k → p l[j] = false) ∧ Hid (Below w.heap.size w wr)) (fun _ i _ => l.length - (intOf i).toNat)
  case atStart => exact ⟨0, by omega, rfl, Lib.hid (fun j _ h => by omega), by (with_reducible try refine Lib.hid ?_); (repeat (with_reducible first | assumption | exact Below.refl _ _ | apply Below.drew | apply Below.drewN' | apply Below.setCell | apply Below.alloc)) <;> (try simp [length_fillTo, length_turnTo]) <;> (try omega)⟩
  case round =>
    obtain ⟨k, hk, rfl, hS, hbel⟩ := hrel
    by_cases hlt : k < l.length
    · have hi1 : (k : Int) < (l.length : Int) := by omega
      have rk : IntKind.i64.wrap ((k : Int) + 1) = ((k + 1 : Nat) : Int) := by
        have h1 := H.out.le; have h2 := H.out.cap
        simp only [maxLen] at h2
        rw [IntKind.wrap_i64]; omega
      obtain ⟨b1, p1, rfl, hA⟩ := (H.out.rows.below hbel.out).ses hlt
      have HY : Hid (p l[k] = true → idxD p l = (k : Int)) := idxD_at p l k hlt hS.out
      have HN : Hid (p l[k] = false → ∀ j (h : j < l.length), j < k + 1 → p l[j] = false) := by
        intro ht j hj hjk
        by_cases e : j = k
        · subst e; exact ht
        · exact hS.out j hj (by omega)
      obtain ⟨s, hs⟩ : ∃ s, l[k] = s := ⟨_, rfl⟩
      rw [hs] at hA HY HN
      clear hs hS
      go_wp2_with (refine stop_load (ty := 30) rfl ?_)
      refine ⟨wpList_load_at rfl rfl hA (by rfl) row30 ?_⟩
      clear hA
      go_wp2_with fail
      refine (HF.out s wr (HC.out _ _ HW.out hbel.out)).mono ?_
      rintro r w1 ⟨rfl, hb⟩
      have HB := Lib.hid (below_step hbel.out hb); clear hb hbel
      cases hp : p s
      · have HN2 := Lib.hid (HN.out hp)
        clear HN HY
        go_wp2
        go_roundw
        case measure => (simp [intOf]) <;> omega
        case rel => exact ⟨k + 1, by omega, rfl, HN2, HB⟩
      · have HY2 := Lib.hid (HY.out hp)
        clear HN HY
        go_wp2
        refine bodyPost_ret (v := .int .i64 (k : Int)) (by simp [results, Try.results34, go_sem]) rfl ⟨by rw [HY2.out], HB.out⟩
    · obtain rfl : k = l.length := by omega
      have HF2 := Lib.hid (idxD_none p l (fun j hj => hS.out j hj hj))
      have hb1 := hbel.out
      clear hS
      go_wp2
      refine bodyPost_ret (v := .int .i64 (-1)) (by simp [results, Try.results34, go_sem]) rfl ⟨by rw [HF2.out], hb1⟩

theorem containsFunc46 (g : FuncId) (eg : ∀ args w, (callFunc g args).run Try.prog w = .ok (.enter g args) w) (B : Nat) (p : Ses → Bool) (C : World → Prop) (hC : ∀ W W', C W → Below W.heap.size W W' → C W')
    (hf : ∀ (s : Ses) (W : World), C W → Calls Try.prog g #[.agg s.cells.toArray, .pointer (some ⟨B, 0, none⟩)] W fun r W' => r = .returned (.bool (p s)) ∧ Below W.heap.size W W')
    (l : List Ses) (w : World) (oa : Option Addr) (n c : Nat) (h : RSes w oa n c l) (hw : C w) :
    Calls Try.prog 46 #[.slice oa n c, .func (.func g) #[] #[.pointer (some ⟨B, 0, none⟩)]] w fun r w' => r = .returned (.bool (l.any p)) ∧ Below w.heap.size w w' := by
  have HC := indexFunc34 g eg B p C hC hf l w oa n c h hw
  have HGE := Lib.hid (idxD_ge p l)
  clear hC hf h hw eg
  go_enter Try.func46, Try.ntmps46
  go_wp2_with fail
  refine HC.mono ?_
  rintro r w1 ⟨rfl, hb⟩
  have HB := Lib.hid hb; clear hb
  go_wp2
  refine bodyPost_ret (v := .bool (decide (0 ≤ idxD p l))) (by simp [results, Try.results46, go_sem]) rfl ⟨by rw [HGE.out], HB.out⟩

/-- is it the open one of an id? -/
def byId (n : Nat) (s : Ses) : Bool := decide (n ≠ 0) && (decide (s.state ≠ 1) && decide (s.id = n))
def waitsD (n : Nat) (s : Ses) : Bool := decide (s.state = 1) && decide (s.nonce = n)
theorem ses_at {w : World} {b : Nat} {s : Ses} (h : Blk w b s.cells) (j : Nat) (hj : j < 20) : w.cell? ⟨b, j, none⟩ = some (s.cells[j]'hj) := h.at' j hj

theorem byId35 (n : Nat) (B : Nat) (s : Ses) (w : World) (hc : w.cell? ⟨B, 0, none⟩ = some (.int .u64 n)) :
    Calls Try.prog 35 #[.agg s.cells.toArray, .pointer (some ⟨B, 0, none⟩)] w fun r w' => r = .returned (.bool (byId n s)) ∧ Below w.heap.size w w' := by
  have hlt := World.block_lt_of_cell? w ⟨B, 0, none⟩ hc
  have hal : Below w.heap.size w (w.alloc (.cells s.cells.toArray 30)) := (Below.refl _ _).alloc (Nat.le_refl _) _
  have hc2 := cell_later hc hal
  have hX : Blk (w.alloc (.cells s.cells.toArray 30)) w.heap.size s.cells := Blk.new' rfl
  have x9 : (w.alloc (.cells s.cells.toArray 30)).cell? ⟨w.heap.size, 9, none⟩ = some (.int .i64 s.state) := ses_at hX 9 (by omega)
  have x0 : (w.alloc (.cells s.cells.toArray 30)).cell? ⟨w.heap.size, 0, none⟩ = some (.int .u64 s.id) := ses_at hX 0 (by omega)
  have hl2 := hX.lt
  have HB := Lib.hid hal
  have HV : Hid (byId n s = (decide (n ≠ 0) && (decide (s.state ≠ 1) && decide (s.id = n)))) := rfl
  clear hal hX hc
  by_cases h0 : n = 0
  · have h0' : (n : Int) = 0 := by omega
    have HR : Hid (byId n s = false) := by show _ = _; rw [HV.out]; simp [h0]
    clear HV h0
    go_enter Try.func35, Try.ntmps35
    go_wp2
    refine bodyPost_ret (v := .bool false) (by simp [results, Try.results35, go_sem]) rfl ⟨by rw [HR.out], HB.out⟩
  · have h0' : ¬ (n : Int) = 0 := by omega
    by_cases h1 : s.state = 1
    · have HR : Hid (byId n s = false) := by show _ = _; rw [HV.out]; simp [h1]
      clear HV h0
      go_enter Try.func35, Try.ntmps35
      go_wp2
      refine bodyPost_ret (v := .bool false) (by simp [results, Try.results35, go_sem]) rfl ⟨by rw [HR.out], HB.out⟩
    · by_cases h2 : s.id = n
      · have HR : Hid (byId n s = true) := by show _ = _; rw [HV.out]; simp [h0, h1, h2]
        have h2' : (s.id : Int) = (n : Int) := by omega
        clear HV h2
        go_enter Try.func35, Try.ntmps35
        go_wp2
        refine bodyPost_ret (v := .bool true) (by simp [results, Try.results35, go_sem, h0, h0', h1, h2']) rfl ⟨by rw [HR.out], HB.out⟩
      · have HR : Hid (byId n s = false) := by show _ = _; rw [HV.out]; simp [h2]
        have h2' : ¬ (s.id : Int) = (n : Int) := by omega
        clear HV h2
        go_enter Try.func35, Try.ntmps35
        go_wp2
        refine bodyPost_ret (v := .bool false) (by simp [results, Try.results35, go_sem, h0, h0', h1, h2']) rfl ⟨by rw [HR.out], HB.out⟩

theorem waits36 (n : Nat) (B : Nat) (s : Ses) (w : World) (hc : w.cell? ⟨B, 0, none⟩ = some (.int .u64 n)) :
    Calls Try.prog 36 #[.agg s.cells.toArray, .pointer (some ⟨B, 0, none⟩)] w fun r w' => r = .returned (.bool (waitsD n s)) ∧ Below w.heap.size w w' := by
  have hlt := World.block_lt_of_cell? w ⟨B, 0, none⟩ hc
  have hal : Below w.heap.size w (w.alloc (.cells s.cells.toArray 30)) := (Below.refl _ _).alloc (Nat.le_refl _) _
  have hc2 := cell_later hc hal
  have hX : Blk (w.alloc (.cells s.cells.toArray 30)) w.heap.size s.cells := Blk.new' rfl
  have x9 : (w.alloc (.cells s.cells.toArray 30)).cell? ⟨w.heap.size, 9, none⟩ = some (.int .i64 s.state) := ses_at hX 9 (by omega)
  have x0 : (w.alloc (.cells s.cells.toArray 30)).cell? ⟨w.heap.size, 1, none⟩ = some (.int .u64 s.nonce) := ses_at hX 1 (by omega)
  have hl2 := hX.lt
  have HB := Lib.hid hal
  have HV : Hid (waitsD n s = (decide (s.state = 1) && decide (s.nonce = n))) := rfl
  clear hal hX hc
  by_cases h1 : s.state = 1
  · by_cases h2 : s.nonce = n
    · have HR : Hid (waitsD n s = true) := by show _ = _; rw [HV.out]; simp [h1, h2]
      have h2' : (s.nonce : Int) = (n : Int) := by omega
      clear HV h2
      go_enter Try.func36, Try.ntmps36
      go_wp2
      refine bodyPost_ret (v := .bool true) (by simp [results, Try.results36, go_sem, h1, h2']) rfl ⟨by rw [HR.out], HB.out⟩
    · have HR : Hid (waitsD n s = false) := by show _ = _; rw [HV.out]; simp [h2]
      have h2' : ¬ (s.nonce : Int) = (n : Int) := by omega
      clear HV h2
      go_enter Try.func36, Try.ntmps36
      go_wp2
      refine bodyPost_ret (v := .bool false) (by simp [results, Try.results36, go_sem, h1, h2']) rfl ⟨by rw [HR.out], HB.out⟩
  · have HR : Hid (waitsD n s = false) := by show _ = _; rw [HV.out]; simp [h1]
    clear HV
    go_enter Try.func36, Try.ntmps36
    go_wp2
    refine bodyPost_ret (v := .bool false) (by simp [results, Try.results36, go_sem]) rfl ⟨by rw [HR.out], HB.out⟩

theorem eg35 : ∀ args w, (callFunc 35 args).run Try.prog w = .ok (.enter 35 args) w := fun args w => by simp
theorem eg36 : ∀ args w, (callFunc 36 args).run Try.prog w = .ok (.enter 36 args) w := fun args w => by simp
theorem byId14 (l : List Ses) (n : Nat) (w : World) (oa : Option Addr) (m c : Nat) (h : RSes w oa m c l) :
    Calls Try.prog 14 #[.slice oa m c, .int .u64 n] w fun r w' => r = .returned (.int .i64 (idxD (byId n) l)) ∧ Below w.heap.size w w' := by
  have hal : Below w.heap.size w (w.alloc (.cells #[.int .u64 n] 24)) := (Below.refl _ _).alloc (Nat.le_refl _) _
  have hX : Blk (w.alloc (.cells #[.int .u64 n] 24)) w.heap.size [.int .u64 n] := Blk.new' rfl
  have hc := hX.at' 0 (by simp)
  simp only [List.getElem_cons_zero] at hc
  have HC := indexFunc34 35 eg35 w.heap.size (byId n) (fun W => W.cell? ⟨w.heap.size, 0, none⟩ = some (.int .u64 n)) (fun W W' h hb => cell_later h hb) (fun s W h => byId35 n _ s W h) l _ oa m c (h.below hal) hc
  have HB := Lib.hid hal
  clear hal hX hc h
  go_enter Try.func14, Try.ntmps14
  go_wp2_with fail
  refine HC.mono ?_
  rintro r w1 ⟨rfl, hb⟩
  have HB2 := Lib.hid (below_step HB.out hb)
  clear HC hb HB
  go_wp2
  refine bodyPost_ret (v := .int .i64 (idxD (byId n) l)) (by simp [results, Try.results14, go_sem]) rfl ⟨rfl, HB2.out⟩
theorem waits16 (l : List Ses) (n : Nat) (w : World) (oa : Option Addr) (m c : Nat) (h : RSes w oa m c l) :
    Calls Try.prog 16 #[.slice oa m c, .int .u64 n] w fun r w' => r = .returned (.int .i64 (idxD (waitsD n) l)) ∧ Below w.heap.size w w' := by
  have hal : Below w.heap.size w (w.alloc (.cells #[.int .u64 n] 24)) := (Below.refl _ _).alloc (Nat.le_refl _) _
  have hX : Blk (w.alloc (.cells #[.int .u64 n] 24)) w.heap.size [.int .u64 n] := Blk.new' rfl
  have hc := hX.at' 0 (by simp)
  simp only [List.getElem_cons_zero] at hc
  have HC := indexFunc34 36 eg36 w.heap.size (waitsD n) (fun W => W.cell? ⟨w.heap.size, 0, none⟩ = some (.int .u64 n)) (fun W W' h hb => cell_later h hb) (fun s W h => waits36 n _ s W h) l _ oa m c (h.below hal) hc
  have HB := Lib.hid hal
  clear hal hX hc h
  go_enter Try.func16, Try.ntmps16
  go_wp2_with fail
  refine HC.mono ?_
  rintro r w1 ⟨rfl, hb⟩
  have HB2 := Lib.hid (below_step HB.out hb)
  clear HC hb HB
  go_wp2
  refine bodyPost_ret (v := .int .i64 (idxD (waitsD n) l)) (by simp [results, Try.results16, go_sem]) rfl ⟨rfl, HB2.out⟩
end Go.Proofs.Ytmfglppgpjplfaa
