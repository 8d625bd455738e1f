/-
  Walks: where the first request stands of which something holds; whether there is one.
-/
import Derived.Test.YtmbakknpnilooaaWf
namespace Go.Proofs.Ytmbakknpnilooaa
open Go.RowKit
set_option maxHeartbeats 2000000
set_option maxRecDepth 20000
set_option linter.unusedVariables false
set_option linter.unusedSimpArgs false

def idxD (p : Pd → Bool) (l : List Pd) : Int := match l.findIdx? p with
  | some i => (i : Int)
  | none => -1
theorem idxD_at (p : Pd → Bool) (l : List Pd) (k : Nat) (hk : k < l.length) (h : ∀ j (hj : j < l.length), j < k → p l[j] = false) (h1 : p l[k] = true) : idxD p l = (k : Int) := by
  have e : l.findIdx? p = some k := by
    rw [List.findIdx?_eq_some_iff_getElem]
    exact ⟨hk, h1, fun j hj => by simp [h j (by omega) hj]⟩
  unfold idxD; rw [e]
theorem idxD_none (p : Pd → Bool) (l : List Pd) (h : ∀ j (hj : j < l.length), p l[j] = false) : idxD p l = -1 := by
  have e : l.findIdx? p = none := by
    rw [List.findIdx?_eq_none_iff]
    intro s hs
    obtain ⟨j, hj, rfl⟩ := List.getElem_of_mem hs
    exact h j hj
  unfold idxD; rw [e]
theorem idxD_ge (p : Pd → Bool) (l : List Pd) : (decide (0 ≤ idxD p l)) = l.any p := by
  unfold idxD
  cases h : l.findIdx? p with
  | none =>
    rw [List.findIdx?_eq_none_iff] at h
    have : l.any p = false := by rw [List.any_eq_false]; intro s hs; simp [h s hs]
    rw [this]; rfl
  | some i =>
    rw [List.findIdx?_eq_some_iff_getElem] at h
    obtain ⟨hi, h1, -⟩ := h
    have : l.any p = true := List.any_eq_true.2 ⟨l[i], List.getElem_mem hi, h1⟩
    rw [this]
    exact decide_eq_true (by simp only; omega)

theorem indexFunc37 (g : FuncId) (eg : ∀ args w, (callFunc g args).run Try.prog w = .ok (.enter g args) w) (B : Nat) (p : Pd → Bool) (C : World → Prop) (hC : ∀ W W', C W → Below W.heap.size W W' → C W')
    (hf : ∀ (s : Pd) (W : World), C W → Calls Try.prog g #[.agg s.cells.toArray, .pointer (some ⟨B, 0, none⟩)] W fun r W' => r = .returned (.bool (p s)) ∧ Below W.heap.size W W')
    (l : List Pd) (w : World) (oa : Option Addr) (n c : Nat) (h : Rws Pd.cells w oa n c l) (hw : C w) :
    Calls Try.prog 37 #[.slice oa n c, .func (.func g) #[] #[.pointer (some ⟨B, 0, none⟩)]] w fun r w' => r = .returned (.int .i64 (idxD p l)) ∧ Below w.heap.size w w' := by
  obtain rfl : n = l.length := h.rows.len
  have H := Lib.hid h; have HC := Lib.hid hC; have HF := Lib.hid hf; have HW := Lib.hid hw; clear h hC hf hw
  go_enter Try.func37, Try.ntmps37
  go_wp2
  go_loopw [5, 8] (fun _ i wr => ∃ k : Nat, k ≤ l.length ∧ i = .int .i64 k ∧ Hid (∀ j (h : j < l.length), j < k → p l[j] = false) ∧ Hid (Below w.heap.size w wr)) (fun _ i _ => l.length - (intOf i).toNat)
  case atStart => exact ⟨0, by omega, rfl, Lib.hid (fun j _ h => by omega), by (with_reducible try refine Lib.hid ?_); (repeat (with_reducible first | assumption | exact Below.refl _ _ | apply Below.drew | apply Below.drewN' | apply Below.setCell | apply Below.alloc)) <;> (try simp [length_fillTo, length_turnTo]) <;> (try omega)⟩
  case round =>
    obtain ⟨k, hk, rfl, hS, hbel⟩ := hrel
    by_cases hlt : k < l.length
    · have hi1 : (k : Int) < (l.length : Int) := by omega
      have rk : IntKind.i64.wrap ((k : Int) + 1) = ((k + 1 : Nat) : Int) := by
        have h1 := H.out.le; have h2 := H.out.cap
        simp only [maxLen] at h2
        rw [IntKind.wrap_i64]; omega
      obtain ⟨b1, p1, rfl, hA⟩ := (H.out.rows.below hbel.out).pd hlt
      have HY : Hid (p l[k] = true → idxD p l = (k : Int)) := idxD_at p l k hlt hS.out
      have HN : Hid (p l[k] = false → ∀ j (h : j < l.length), j < k + 1 → p l[j] = false) := by
        intro ht j hj hjk
        by_cases e : j = k
        · subst e; exact ht
        · exact hS.out j hj (by omega)
      obtain ⟨s, hs⟩ : ∃ s, l[k] = s := ⟨_, rfl⟩
      rw [hs] at hA HY HN
      clear hs hS
      go_wp2_with (refine stop_load (ty := 32) rfl ?_)
      refine ⟨wpList_load_at rfl rfl hA (by rfl) row32 ?_⟩
      clear hA
      go_wp2_with fail
      refine (HF.out s wr (HC.out _ _ HW.out hbel.out)).mono ?_
      rintro r w1 ⟨rfl, hb⟩
      have HB := Lib.hid (below_step hbel.out hb); clear hb hbel
      cases hp : p s
      · have HN2 := Lib.hid (HN.out hp)
        clear HN HY
        go_wp2
        go_roundw
        case measure => (simp [intOf]) <;> omega
        case rel => exact ⟨k + 1, by omega, rfl, HN2, HB⟩
      · have HY2 := Lib.hid (HY.out hp)
        clear HN HY
        go_wp2
        refine bodyPost_ret (v := .int .i64 (k : Int)) (by simp [results, Try.results37, go_sem]) rfl ⟨by rw [HY2.out], HB.out⟩
    · obtain rfl : k = l.length := by omega
      have HF2 := Lib.hid (idxD_none p l (fun j hj => hS.out j hj hj))
      have hb1 := hbel.out
      clear hS
      go_wp2
      refine bodyPost_ret (v := .int .i64 (-1)) (by simp [results, Try.results37, go_sem]) rfl ⟨by rw [HF2.out], hb1⟩

theorem containsFunc44 (g : FuncId) (eg : ∀ args w, (callFunc g args).run Try.prog w = .ok (.enter g args) w) (B : Nat) (p : Pd → Bool) (C : World → Prop) (hC : ∀ W W', C W → Below W.heap.size W W' → C W')
    (hf : ∀ (s : Pd) (W : World), C W → Calls Try.prog g #[.agg s.cells.toArray, .pointer (some ⟨B, 0, none⟩)] W fun r W' => r = .returned (.bool (p s)) ∧ Below W.heap.size W W')
    (l : List Pd) (w : World) (oa : Option Addr) (n c : Nat) (h : Rws Pd.cells w oa n c l) (hw : C w) :
    Calls Try.prog 44 #[.slice oa n c, .func (.func g) #[] #[.pointer (some ⟨B, 0, none⟩)]] w fun r w' => r = .returned (.bool (l.any p)) ∧ Below w.heap.size w w' := by
  have HC := indexFunc37 g eg B p C hC hf l w oa n c h hw
  have HGE := Lib.hid (idxD_ge p l)
  clear hC hf h hw eg
  go_enter Try.func44, Try.ntmps44
  go_wp2_with fail
  refine HC.mono ?_
  rintro r w1 ⟨rfl, hb⟩
  have HB := Lib.hid hb; clear hb
  go_wp2
  refine bodyPost_ret (v := .bool (decide (0 ≤ idxD p l))) (by simp [results, Try.results44, go_sem]) rfl ⟨by rw [HGE.out], HB.out⟩

theorem indexFunc37b (g : FuncId) (eg : ∀ args w, (callFunc g args).run Try.prog w = .ok (.enter g args) w) (B : Nat) (p : Pd → Bool) (C : World → Prop) (hC : ∀ W W', C W → Below W.heap.size W W' → C W')
    (hf : ∀ (s : Pd) (W : World), C W → Calls Try.prog g #[.agg s.cells.toArray, .pointer (some ⟨B, 0, none⟩), .pointer (some ⟨B + 1, 0, none⟩)] W fun r W' => r = .returned (.bool (p s)) ∧ Below W.heap.size W W')
    (l : List Pd) (w : World) (oa : Option Addr) (n c : Nat) (h : Rws Pd.cells w oa n c l) (hw : C w) :
    Calls Try.prog 37 #[.slice oa n c, .func (.func g) #[] #[.pointer (some ⟨B, 0, none⟩), .pointer (some ⟨B + 1, 0, none⟩)]] w fun r w' => r = .returned (.int .i64 (idxD p l)) ∧ Below w.heap.size w w' := by
  obtain rfl : n = l.length := h.rows.len
  have H := Lib.hid h; have HC := Lib.hid hC; have HF := Lib.hid hf; have HW := Lib.hid hw; clear h hC hf hw
  go_enter Try.func37, Try.ntmps37
  go_wp2
  go_loopw [5, 8] (fun _ i wr => ∃ k : Nat, k ≤ l.length ∧ i = .int .i64 k ∧ Hid (∀ j (h : j < l.length), j < k → p l[j] = false) ∧ Hid (Below w.heap.size w wr)) (fun _ i _ => l.length - (intOf i).toNat)
  case atStart => exact ⟨0, by omega, rfl, Lib.hid (fun j _ h => by omega), by (with_reducible try refine Lib.hid ?_); (repeat (with_reducible first | assumption | exact Below.refl _ _ | apply Below.drew | apply Below.drewN' | apply Below.setCell | apply Below.alloc)) <;> (try simp [length_fillTo, length_turnTo]) <;> (try omega)⟩
  case round =>
    obtain ⟨k, hk, rfl, hS, hbel⟩ := hrel
    by_cases hlt : k < l.length
    · have hi1 : (k : Int) < (l.length : Int) := by omega
      have rk : IntKind.i64.wrap ((k : Int) + 1) = ((k + 1 : Nat) : Int) := by
        have h1 := H.out.le; have h2 := H.out.cap
        simp only [maxLen] at h2
        rw [IntKind.wrap_i64]; omega
      obtain ⟨b1, p1, rfl, hA⟩ := (H.out.rows.below hbel.out).pd hlt
      have HY : Hid (p l[k] = true → idxD p l = (k : Int)) := idxD_at p l k hlt hS.out
      have HN : Hid (p l[k] = false → ∀ j (h : j < l.length), j < k + 1 → p l[j] = false) := by
        intro ht j hj hjk
        by_cases e : j = k
        · subst e; exact ht
        · exact hS.out j hj (by omega)
      obtain ⟨s, hs⟩ : ∃ s, l[k] = s := ⟨_, rfl⟩
      rw [hs] at hA HY HN
      clear hs hS
      go_wp2_with (refine stop_load (ty := 32) rfl ?_)
      refine ⟨wpList_load_at rfl rfl hA (by rfl) row32 ?_⟩
      clear hA
      go_wp2_with fail
      refine (HF.out s wr (HC.out _ _ HW.out hbel.out)).mono ?_
      rintro r w1 ⟨rfl, hb⟩
      have HB := Lib.hid (below_step hbel.out hb); clear hb hbel
      cases hp : p s
      · have HN2 := Lib.hid (HN.out hp)
        clear HN HY
        go_wp2
        go_roundw
        case measure => (simp [intOf]) <;> omega
        case rel => exact ⟨k + 1, by omega, rfl, HN2, HB⟩
      · have HY2 := Lib.hid (HY.out hp)
        clear HN HY
        go_wp2
        refine bodyPost_ret (v := .int .i64 (k : Int)) (by simp [results, Try.results37, go_sem]) rfl ⟨by rw [HY2.out], HB.out⟩
    · obtain rfl : k = l.length := by omega
      have HF2 := Lib.hid (idxD_none p l (fun j hj => hS.out j hj hj))
      have hb1 := hbel.out
      clear hS
      go_wp2
      refine bodyPost_ret (v := .int .i64 (-1)) (by simp [results, Try.results37, go_sem]) rfl ⟨by rw [HF2.out], hb1⟩

theorem containsFunc44b (g : FuncId) (eg : ∀ args w, (callFunc g args).run Try.prog w = .ok (.enter g args) w) (B : Nat) (p : Pd → Bool) (C : World → Prop) (hC : ∀ W W', C W → Below W.heap.size W W' → C W')
    (hf : ∀ (s : Pd) (W : World), C W → Calls Try.prog g #[.agg s.cells.toArray, .pointer (some ⟨B, 0, none⟩), .pointer (some ⟨B + 1, 0, none⟩)] W fun r W' => r = .returned (.bool (p s)) ∧ Below W.heap.size W W')
    (l : List Pd) (w : World) (oa : Option Addr) (n c : Nat) (h : Rws Pd.cells w oa n c l) (hw : C w) :
    Calls Try.prog 44 #[.slice oa n c, .func (.func g) #[] #[.pointer (some ⟨B, 0, none⟩), .pointer (some ⟨B + 1, 0, none⟩)]] w fun r w' => r = .returned (.bool (l.any p)) ∧ Below w.heap.size w w' := by
  have HC := indexFunc37b g eg B p C hC hf l w oa n c h hw
  have HGE := Lib.hid (idxD_ge p l)
  clear hC hf h hw eg
  go_enter Try.func44, Try.ntmps44
  go_wp2_with fail
  refine HC.mono ?_
  rintro r w1 ⟨rfl, hb⟩
  have HB := Lib.hid hb; clear hb
  go_wp2
  refine bodyPost_ret (v := .bool (decide (0 ≤ idxD p l))) (by simp [results, Try.results44, go_sem]) rfl ⟨by rw [HGE.out], HB.out⟩


def ridD (n : Int) (s : Pd) : Bool := decide (s.rid = n)
def hasD (n : Int) (x : ByteArray) (s : Pd) : Bool := decide (s.why = n) && decide (s.to.name = x)
theorem rid38 (n : Int) (B : Nat) (s : Pd) (w : World) (hc : w.cell? ⟨B, 0, none⟩ = some (.int .i64 n)) :
    Calls Try.prog 38 #[.agg s.cells.toArray, .pointer (some ⟨B, 0, none⟩)] w fun r w' => r = .returned (.bool (ridD n s)) ∧ Below w.heap.size w w' := by
  have hlt := World.block_lt_of_cell? w ⟨B, 0, none⟩ hc
  have hal : Below w.heap.size w (w.alloc (.cells s.cells.toArray 32)) := (Below.refl _ _).alloc (Nat.le_refl _) _
  have hc2 := cell_later hc hal
  have hX : Blk (w.alloc (.cells s.cells.toArray 32)) w.heap.size s.cells := Blk.new' rfl
  have x0 : (w.alloc (.cells s.cells.toArray 32)).cell? ⟨w.heap.size, 0, none⟩ = some (.int .i64 s.rid) := pd_at hX 0 (by omega)
  have hl2 := hX.lt
  have HB := Lib.hid hal
  clear hal hX hc
  by_cases h1 : s.rid = n
  · have HR : Hid (ridD n s = true) := decide_eq_true h1
    go_enter Try.func38, Try.ntmps38
    go_wp2
    refine bodyPost_ret (v := .bool true) (by simp [results, Try.results38, go_sem, h1]) rfl ⟨by rw [HR.out], HB.out⟩
  · have HR : Hid (ridD n s = false) := decide_eq_false h1
    go_enter Try.func38, Try.ntmps38
    go_wp2
    refine bodyPost_ret (v := .bool false) (by simp [results, Try.results38, go_sem, h1]) rfl ⟨by rw [HR.out], HB.out⟩
theorem has45 (n : Int) (x : ByteArray) (B : Nat) (s : Pd) (w : World) (hc : w.cell? ⟨B, 0, none⟩ = some (.int .i64 n)) (hd : w.cell? ⟨B + 1, 0, none⟩ = some (.string x)) :
    Calls Try.prog 45 #[.agg s.cells.toArray, .pointer (some ⟨B, 0, none⟩), .pointer (some ⟨B + 1, 0, none⟩)] w fun r w' => r = .returned (.bool (hasD n x s)) ∧ Below w.heap.size w w' := by
  have hlt := World.block_lt_of_cell? w ⟨B + 1, 0, none⟩ hd
  have hlt0 := World.block_lt_of_cell? w ⟨B, 0, none⟩ hc
  have hal : Below w.heap.size w (w.alloc (.cells s.cells.toArray 32)) := (Below.refl _ _).alloc (Nat.le_refl _) _
  have hc2 := cell_later hc hal
  have hd2 := cell_later hd hal
  have hX : Blk (w.alloc (.cells s.cells.toArray 32)) w.heap.size s.cells := Blk.new' rfl
  have x1 : (w.alloc (.cells s.cells.toArray 32)).cell? ⟨w.heap.size, 1, none⟩ = some (.int .i64 s.why) := pd_at hX 1 (by omega)
  have x6 : (w.alloc (.cells s.cells.toArray 32)).cell? ⟨w.heap.size, 6, none⟩ = some (.string s.to.name) := pd_at hX 6 (by omega)
  have hl2 := hX.lt
  have HB := Lib.hid hal
  have HV : Hid (hasD n x s = (decide (s.why = n) && decide (s.to.name = x))) := rfl
  clear hal hX hc hd
  by_cases h1 : s.why = n
  · by_cases h2 : s.to.name = x
    · have HR : Hid (hasD n x s = true) := by show _ = _; rw [HV.out]; simp [h1, h2]
      clear HV
      go_enter Try.func45, Try.ntmps45
      go_wp2
      refine bodyPost_ret (v := .bool true) (by simp [results, Try.results45, go_sem, h1, h2]) rfl ⟨by rw [HR.out], HB.out⟩
    · have HR : Hid (hasD n x s = false) := by show _ = _; rw [HV.out]; simp [h2]
      have hne := strne h2
      clear HV
      go_enter Try.func45, Try.ntmps45
      go_wp2
      refine bodyPost_ret (v := .bool false) (by simp [results, Try.results45, go_sem, h1, hne]) rfl ⟨by rw [HR.out], HB.out⟩
  · have HR : Hid (hasD n x s = false) := by show _ = _; rw [HV.out]; simp [h1]
    clear HV
    go_enter Try.func45, Try.ntmps45
    go_wp2
    refine bodyPost_ret (v := .bool false) (by simp [results, Try.results45, go_sem, h1]) rfl ⟨by rw [HR.out], HB.out⟩
theorem eg38 : ∀ args w, (callFunc 38 args).run Try.prog w = .ok (.enter 38 args) w := fun args w => by simp
theorem eg45 : ∀ args w, (callFunc 45 args).run Try.prog w = .ok (.enter 45 args) w := fun args w => by simp
theorem place20 (l : List Pd) (n : Int) (w : World) (oa : Option Addr) (m c : Nat) (h : Rws Pd.cells w oa m c l) :
    Calls Try.prog 20 #[.slice oa m c, .int .i64 n] w fun r w' => r = .returned (.int .i64 (idxD (ridD n) l)) ∧ Below w.heap.size w w' := by
  have hal : Below w.heap.size w (w.alloc (.cells #[.int .i64 n] 3)) := (Below.refl _ _).alloc (Nat.le_refl _) _
  have hX : Blk (w.alloc (.cells #[.int .i64 n] 3)) w.heap.size [.int .i64 n] := Blk.new' rfl
  have hc := hX.at' 0 (by simp)
  simp only [List.getElem_cons_zero] at hc
  have HC := indexFunc37 38 eg38 w.heap.size (ridD n) (fun W => W.cell? ⟨w.heap.size, 0, none⟩ = some (.int .i64 n)) (fun W W' h hb => cell_later h hb) (fun s W h => rid38 n _ s W h) l _ oa m c (h.below hal) hc
  have HB := Lib.hid hal
  clear hal hX hc h
  go_enter Try.func20, Try.ntmps20
  go_wp2_with fail
  refine HC.mono ?_
  rintro r w1 ⟨rfl, hb⟩
  have HB2 := Lib.hid (below_step HB.out hb)
  clear HC hb HB
  go_wp2
  refine bodyPost_ret (v := .int .i64 (idxD (ridD n) l)) (by simp [results, Try.results20, go_sem]) rfl ⟨rfl, HB2.out⟩
theorem has27 (l : List Pd) (n : Int) (x : ByteArray) (w : World) (oa : Option Addr) (m c : Nat) (h : Rws Pd.cells w oa m c l) :
    Calls Try.prog 27 #[.slice oa m c, .int .i64 n, .string x] w fun r w' => r = .returned (.bool (l.any (hasD n x))) ∧ Below w.heap.size w w' := by
  have hal : Below w.heap.size w ((w.alloc (.cells #[.int .i64 n] 3)).alloc (.cells #[.string x] 9)) := by (with_reducible try refine Lib.hid ?_); (repeat (with_reducible first | assumption | exact Below.refl _ _ | apply Below.drew | apply Below.drewN' | apply Below.setCell | apply Below.alloc)) <;> (try simp [length_fillTo, length_turnTo]) <;> (try omega)
  have hX : Blk ((w.alloc (.cells #[.int .i64 n] 3)).alloc (.cells #[.string x] 9)) w.heap.size [.int .i64 n] := Blk.alloc (Blk.new' rfl) _
  have hY : Blk ((w.alloc (.cells #[.int .i64 n] 3)).alloc (.cells #[.string x] 9)) (w.heap.size + 1) [.string x] := by
    have := Blk.new' (w := w.alloc (.cells #[.int .i64 n] 3)) (cs := [.string x]) (e := 9) rfl
    simpa using this
  have hc := hX.at' 0 (by simp)
  have hd := hY.at' 0 (by simp)
  simp only [List.getElem_cons_zero] at hc hd
  have HC := containsFunc44b 45 eg45 w.heap.size (hasD n x) (fun W => W.cell? ⟨w.heap.size, 0, none⟩ = some (.int .i64 n) ∧ W.cell? ⟨w.heap.size + 1, 0, none⟩ = some (.string x)) (fun W W' h hb => ⟨cell_later h.1 hb, cell_later h.2 hb⟩) (fun s W h => has45 n x _ s W h.1 h.2) l _ oa m c (h.below hal) ⟨hc, hd⟩
  have HB := Lib.hid hal
  clear hal hX hY hc hd h
  go_enter Try.func27, Try.ntmps27
  go_wp2_with fail
  refine HC.mono ?_
  rintro r w1 ⟨rfl, hb⟩
  have HB2 := Lib.hid (below_step HB.out hb)
  clear HC hb HB
  go_wp2
  refine bodyPost_ret (v := .bool (l.any (hasD n x))) (by simp [results, Try.results27, go_sem]) rfl ⟨rfl, HB2.out⟩
theorem refPlace21 (l : List Pd) (n : Int) (w : World) (oa : Option Addr) (m c : Nat) (h : Rws Pd.cells w oa m c l) :
    Calls Try.prog 21 #[.slice oa m c, .int .i64 n] w fun r w' => r = .returned (.int .i64 (idxD (ridD n) l)) ∧ Below w.heap.size w w' := by
  obtain rfl : m = l.length := h.rows.len
  have H := Lib.hid h
  clear h
  go_enter Try.func21, Try.ntmps21
  go_wp2_with fail
  go_loopw [5] (fun i wr => ∃ k : Nat, k ≤ l.length ∧ i = .int .i64 k ∧ Hid (∀ j (h : j < l.length), j < k → ridD n l[j] = false) ∧ Hid (Below w.heap.size w wr)) (fun i _ => l.length - (intOf i).toNat)
  case atStart => exact ⟨0, by omega, rfl, Lib.hid (fun j _ h => by omega), by (with_reducible try refine Lib.hid ?_); (repeat (with_reducible first | assumption | exact Below.refl _ _ | apply Below.drew | apply Below.drewN' | apply Below.setCell | apply Below.alloc)) <;> (try simp [length_fillTo, length_turnTo]) <;> (try omega)⟩
  case round =>
    obtain ⟨k, hk, rfl, hS, hB⟩ := hrel
    by_cases hlt : k < l.length
    · have hi1 : (k : Int) < (l.length : Int) := by omega
      have rk : IntKind.i64.wrap ((k : Int) + 1) = ((k + 1 : Nat) : Int) := by
        have h1 := H.out.le; have h2 := H.out.cap
        simp only [maxLen] at h2
        rw [IntKind.wrap_i64]; omega
      obtain ⟨b1, p1, rfl, hA⟩ := (H.out.rows.below hB.out).pd hlt
      have HY : Hid (ridD n l[k] = true → idxD (ridD n) l = (k : Int)) := idxD_at (ridD n) l k hlt hS.out
      have HN : Hid (ridD n l[k] = false → ∀ j (h : j < l.length), j < k + 1 → ridD n l[j] = false) := by
        intro ht j hj hjk
        by_cases e : j = k
        · subst e; exact ht
        · exact hS.out j hj (by omega)
      obtain ⟨s, hs⟩ : ∃ s, l[k] = s := ⟨_, rfl⟩
      rw [hs] at hA HY HN
      have x0 : wr.cell? ⟨b1, p1 + k * 23, none⟩ = some (.int .i64 s.rid) := hA.get 0 (by simp [Pd.cells])
      have hxl := hA.lt
      clear hs hS hA
      by_cases h1 : s.rid = n
      · have HY2 := Lib.hid (HY.out (decide_eq_true h1))
        clear HY HN
        go_wp2
        refine bodyPost_ret (v := .int .i64 (k : Int)) (by simp [results, Try.results21, go_sem]) rfl ⟨by rw [HY2.out], hB.out⟩
      · have HN2 := Lib.hid (HN.out (decide_eq_false h1))
        clear HY HN
        go_wp2
        go_roundw
        case measure => (simp [intOf]) <;> omega
        case rel => exact ⟨k + 1, by omega, rfl, HN2, hB⟩
    · obtain rfl : k = l.length := by omega
      have HF2 := Lib.hid (idxD_none (ridD n) l (fun j hj => hS.out j hj hj))
      have hb1 := hB.out
      clear hS
      go_wp2
      refine bodyPost_ret (v := .int .i64 (-1)) (by simp [results, Try.results21, go_sem]) rfl ⟨by rw [HF2.out], hb1⟩
theorem any_at (p : Pd → Bool) (l : List Pd) (k : Nat) (hk : k < l.length) (h1 : p l[k] = true) : l.any p = true := List.any_eq_true.2 ⟨_, List.getElem_mem hk, h1⟩
theorem any_none (p : Pd → Bool) (l : List Pd) (h : ∀ j (hj : j < l.length), p l[j] = false) : l.any p = false := by
  rw [List.any_eq_false]
  intro s hs
  obtain ⟨j, hj, rfl⟩ := List.getElem_of_mem hs
  simp [h j hj]
theorem refHas28 (l : List Pd) (n : Int) (x : ByteArray) (w : World) (oa : Option Addr) (m c : Nat) (h : Rws Pd.cells w oa m c l) :
    Calls Try.prog 28 #[.slice oa m c, .int .i64 n, .string x] w fun r w' => r = .returned (.bool (l.any (hasD n x))) ∧ Below w.heap.size w w' := by
  obtain rfl : m = l.length := h.rows.len
  have H := Lib.hid h
  clear h
  go_enter Try.func28, Try.ntmps28
  go_wp2_with fail
  go_loopw [7] (fun i wr => ∃ k : Nat, k ≤ l.length ∧ i = .int .i64 k ∧ Hid (∀ j (h : j < l.length), j < k → hasD n x l[j] = false) ∧ Hid (Below w.heap.size w wr)) (fun i _ => l.length - (intOf i).toNat)
  case atStart => exact ⟨0, by omega, rfl, Lib.hid (fun j _ h => by omega), by (with_reducible try refine Lib.hid ?_); (repeat (with_reducible first | assumption | exact Below.refl _ _ | apply Below.drew | apply Below.drewN' | apply Below.setCell | apply Below.alloc)) <;> (try simp [length_fillTo, length_turnTo]) <;> (try omega)⟩
  case round =>
    obtain ⟨k, hk, rfl, hS, hB⟩ := hrel
    by_cases hlt : k < l.length
    · have hi1 : (k : Int) < (l.length : Int) := by omega
      have rk : IntKind.i64.wrap ((k : Int) + 1) = ((k + 1 : Nat) : Int) := by
        have h1 := H.out.le; have h2 := H.out.cap
        simp only [maxLen] at h2
        rw [IntKind.wrap_i64]; omega
      obtain ⟨b1, p1, rfl, hA⟩ := (H.out.rows.below hB.out).pd hlt
      have HY : Hid (hasD n x l[k] = true → l.any (hasD n x) = true) := any_at (hasD n x) l k hlt
      have HN : Hid (hasD n x l[k] = false → ∀ j (h : j < l.length), j < k + 1 → hasD n x l[j] = false) := by
        intro ht j hj hjk
        by_cases e : j = k
        · subst e; exact ht
        · exact hS.out j hj (by omega)
      obtain ⟨s, hs⟩ : ∃ s, l[k] = s := ⟨_, rfl⟩
      rw [hs] at hA HY HN
      have x1 : wr.cell? ⟨b1, p1 + k * 23 + 1, none⟩ = some (.int .i64 s.why) := hA.get 1 (by simp [Pd.cells])
      have x6 : wr.cell? ⟨b1, p1 + k * 23 + 6, none⟩ = some (.string s.to.name) := hA.get 6 (by simp [Pd.cells])
      have hxl := hA.lt
      clear hs hS hA
      by_cases h1 : s.why = n
      · by_cases h2 : s.to.name = x
        · have HY2 := Lib.hid (HY.out (by unfold hasD; simp [h1, h2]))
          clear HY HN
          go_wp2
          refine bodyPost_ret (v := .bool true) (by simp [results, Try.results28, go_sem]) rfl ⟨by rw [HY2.out], hB.out⟩
        · have HN2 := Lib.hid (HN.out (by unfold hasD; simp [h2]))
          have hne := strne h2
          clear HY HN
          go_wp2
          go_roundw
          case measure => (simp [intOf]) <;> omega
          case rel => exact ⟨k + 1, by omega, rfl, HN2, hB⟩
      · have HN2 := Lib.hid (HN.out (by unfold hasD; simp [h1]))
        clear HY HN
        go_wp2
        go_roundw
        case measure => (simp [intOf]) <;> omega
        case rel => exact ⟨k + 1, by omega, rfl, HN2, hB⟩
    · obtain rfl : k = l.length := by omega
      have HF2 := Lib.hid (any_none (hasD n x) l (fun j hj => hS.out j hj hj))
      have hb1 := hB.out
      clear hS
      go_wp2
      refine bodyPost_ret (v := .bool false) (by simp [results, Try.results28, go_sem]) rfl ⟨by rw [HF2.out], hb1⟩
end Go.Proofs.Ytmbakknpnilooaa
