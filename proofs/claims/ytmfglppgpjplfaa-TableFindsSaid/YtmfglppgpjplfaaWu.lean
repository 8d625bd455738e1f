/-
  Walks: the session that waits for a peer; the one by which a peer is spoken to (the document's).
-/
import Derived.Test.YtmfglppgpjplfaaWn
namespace Go.Proofs.Ytmfglppgpjplfaa
open Go.RowKit Go.Proofs.Ytmfglppgpjplfaa.Plan Go.Proofs.Ytmfglppgpjplfaa.Eager
set_option maxHeartbeats 4000000
set_option maxRecDepth 20000
set_option linter.unusedVariables false
set_option linter.unusedSimpArgs false

def asksD (e : En) (s : Ses) : Bool := decide (s.state = 1) && whoD s.peer e
def spentD (s : Ses) : Bool := decide (4096 ≤ s.seq) || decide (65535 ≤ s.epoch)
def forD (e : En) (s : Ses) : Bool := decide (s.state = 3) && (whoD s.peer e && !spentD s)
def lastN (p : Ses → Bool) (l : List Ses) : Nat → Int
  | 0 => -1
  | k + 1 => match l[k]? with
    | some s => if p s then (k : Int) else lastN p l k
    | none => lastN p l k

theorem asks37 (e : En) (B : Nat) (s : Ses) (w : World) (hB : Blk w B e.cells) :
    Calls Try.prog 37 #[.agg s.cells.toArray, .pointer (some ⟨B, 0, none⟩)] w fun r w' => r = .returned (.bool (asksD e s)) ∧ Below w.heap.size w w' := by
  have hal : Below w.heap.size w (w.alloc (.cells s.cells.toArray 30)) := (Below.refl _ _).alloc (Nat.le_refl _) _
  have hY := hB.later hal
  have hX : Blk (w.alloc (.cells s.cells.toArray 30)) w.heap.size s.cells := Blk.new' rfl
  have HB := Lib.hid hal
  have HV : Hid (asksD e s = (decide (s.state = 1) && whoD s.peer e)) := rfl
  have hlt := hB.lt
  have x9 : (w.alloc (.cells s.cells.toArray 30)).cell? ⟨w.heap.size, 9, none⟩ = some (.int .i64 s.state) := ses_at hX 9 (by omega)
  have hl2 := hX.lt
  by_cases h1 : s.state = 1
  · have HR : Hid (asksD e s = whoD s.peer e) := by show _ = _; rw [HV.out]; simp [h1]
    have x2 : (w.alloc (.cells s.cells.toArray 30)).cell? ⟨w.heap.size, 2, none⟩ = some (.string s.peer.name) := ses_at hX 2 (by omega)
    have x3 : (w.alloc (.cells s.cells.toArray 30)).cell? ⟨w.heap.size, 3, none⟩ = some (.int .u64 s.peer.id) := ses_at hX 3 (by omega)
    have x4 : (w.alloc (.cells s.cells.toArray 30)).cell? ⟨w.heap.size, 4, none⟩ = some (.int .i64 s.peer.frm) := ses_at hX 4 (by omega)
    have x5 : (w.alloc (.cells s.cells.toArray 30)).cell? ⟨w.heap.size, 5, none⟩ = some (.int .i64 s.peer.til) := ses_at hX 5 (by omega)
    have x6 : (w.alloc (.cells s.cells.toArray 30)).cell? ⟨w.heap.size, 6, none⟩ = some (.int .i64 s.peer.idx) := ses_at hX 6 (by omega)
    have x7 : (w.alloc (.cells s.cells.toArray 30)).cell? ⟨w.heap.size, 7, none⟩ = some (.string s.peer.tag) := ses_at hX 7 (by omega)
    have y0 : (w.alloc (.cells s.cells.toArray 30)).cell? ⟨B, 0, none⟩ = some (.string e.name) := hY.at' 0 (by simp [En.cells])
    have y1 : (w.alloc (.cells s.cells.toArray 30)).cell? ⟨B, 1, none⟩ = some (.int .u64 e.id) := hY.at' 1 (by simp [En.cells])
    have y2 : (w.alloc (.cells s.cells.toArray 30)).cell? ⟨B, 2, none⟩ = some (.int .i64 e.frm) := hY.at' 2 (by simp [En.cells])
    have y3 : (w.alloc (.cells s.cells.toArray 30)).cell? ⟨B, 3, none⟩ = some (.int .i64 e.til) := hY.at' 3 (by simp [En.cells])
    have y4 : (w.alloc (.cells s.cells.toArray 30)).cell? ⟨B, 4, none⟩ = some (.int .i64 e.idx) := hY.at' 4 (by simp [En.cells])
    have y5 : (w.alloc (.cells s.cells.toArray 30)).cell? ⟨B, 5, none⟩ = some (.string e.tag) := hY.at' 5 (by simp [En.cells])
    have HW := who38 s.peer e
    simp only [En.cells] at HW
    clear HV hal hY hX hB
    go_enter Try.func37, Try.ntmps37
    go_wp2_with fail
    refine (HW _).mono ?_
    rintro r w1 ⟨rfl, hb⟩
    have HB2 := Lib.hid (below_step HB.out hb)
    clear hb HB x2 x3 x4 x5 x6 x7 y0 y1 y2 y3 y4 y5 HW x9
    go_wp2
    refine bodyPost_ret (v := .bool (whoD s.peer e)) (by simp [results, Try.results37, go_sem]) rfl ⟨by rw [HR.out], HB2.out⟩
  · have HR : Hid (asksD e s = false) := by show _ = _; rw [HV.out]; simp [h1]
    clear HV hal hY hX hB
    go_enter Try.func37, Try.ntmps37
    go_wp2
    refine bodyPost_ret (v := .bool false) (by simp [results, Try.results37, go_sem, h1]) rfl ⟨by rw [HR.out], HB.out⟩
theorem eg37 : ∀ args w, (callFunc 37 args).run Try.prog w = .ok (.enter 37 args) w := fun args w => by simp
theorem asks18 (l : List Ses) (e : En) (w : World) (oa : Option Addr) (m c : Nat) (h : RSes w oa m c l) :
    Calls Try.prog 18 #[.slice oa m c, .agg e.cells.toArray] w fun r w' => r = .returned (.int .i64 (idxD (asksD e) l)) ∧ Below w.heap.size w w' := by
  have hal : Below w.heap.size w (w.alloc (.cells e.cells.toArray 26)) := (Below.refl _ _).alloc (Nat.le_refl _) _
  have hX : Blk (w.alloc (.cells e.cells.toArray 26)) w.heap.size e.cells := Blk.new' rfl
  have HC := indexFunc34 37 eg37 w.heap.size (asksD e) (fun W => Blk W w.heap.size e.cells) (fun W W' h hb => h.later hb) (fun s W h => asks37 e _ s W h) l _ oa m c (h.below hal) hX
  have HB := Lib.hid hal
  clear hal hX h
  go_enter Try.func18, Try.ntmps18
  go_wp2_with fail
  refine HC.mono ?_
  rintro r w1 ⟨rfl, hb⟩
  have HB2 := Lib.hid (below_step HB.out hb)
  clear HC hb HB
  go_wp2
  refine bodyPost_ret (v := .int .i64 (idxD (asksD e) l)) (by simp [results, Try.results18, go_sem]) rfl ⟨rfl, HB2.out⟩

theorem refAsks19 (l : List Ses) (e : En) (w : World) (oa : Option Addr) (m c : Nat) (h : RSes w oa m c l) :
    Calls Try.prog 19 #[.slice oa m c, .agg e.cells.toArray] w fun r w' => r = .returned (.int .i64 (idxD (asksD e) l)) ∧ Below w.heap.size w w' := by
  obtain rfl : m = l.length := h.rows.len
  have hal : Below w.heap.size w (w.alloc (.cells e.cells.toArray 26)) := (Below.refl _ _).alloc (Nat.le_refl _) _
  have hX : Blk (w.alloc (.cells e.cells.toArray 26)) w.heap.size e.cells := Blk.new' rfl
  have HB := Lib.hid hal; have HX := Lib.hid hX; have H := Lib.hid h
  clear hal hX h
  go_enter Try.func19, Try.ntmps19
  go_wp2_with fail
  go_loopw [5] (fun i wr => ∃ k : Nat, k ≤ l.length ∧ i = .int .i64 k ∧ Hid (∀ j (h : j < l.length), j < k → asksD e l[j] = false) ∧ Hid (Blk wr w.heap.size e.cells) ∧ Hid (Below w.heap.size w wr)) (fun i _ => l.length - (intOf i).toNat)
  case atStart => exact ⟨0, by omega, rfl, Lib.hid (fun j _ h => by omega), HX, HB⟩
  case round =>
    obtain ⟨k, hk, rfl, hS, hY, hB⟩ := hrel
    by_cases hlt : k < l.length
    · have hi1 : (k : Int) < (l.length : Int) := by omega
      have rk : IntKind.i64.wrap ((k : Int) + 1) = ((k + 1 : Nat) : Int) := by
        have h1 := H.out.le; have h2 := H.out.cap
        simp only [maxLen] at h2
        rw [IntKind.wrap_i64]; omega
      obtain ⟨b1, p1, rfl, hA⟩ := (H.out.rows.below hB.out).ses hlt
      have HA := Lib.hid hA
      have HY : Hid (asksD e l[k] = true → idxD (asksD e) l = (k : Int)) := idxD_at (asksD e) l k hlt hS.out
      have HN : Hid (asksD e l[k] = false → ∀ j (h : j < l.length), j < k + 1 → asksD e l[j] = false) := by
        intro ht j hj hjk
        by_cases e : j = k
        · subst e; exact ht
        · exact hS.out j hj (by omega)
      obtain ⟨s, hs⟩ : ∃ s, l[k] = s := ⟨_, rfl⟩
      rw [hs] at HA HY HN
      clear hs hS hA
      obtain ⟨wA, rfl⟩ : ∃ q, q = wr := ⟨_, rfl⟩
      by_cases h1 : s.state = 1
      · have G1 : Hid (s.state = 1) := h1
        clear h1
        go_wp2_with fail
        refine wp_region_plan none [] [] (.take 0 (.take 1 (.take 2 (.take 3 (.take 4 (.take 5 (.take 6 (.take 7 (.take 8 (.take 9 (.take 10 (.take 11 (.take 12 (.one 13 (.take 14 .done))))))))))))))) (by kernel_rfl) (by kernel_rfl) (fun _ _ dd _ _ h => by cases dd <;> exact h) ?_
        intro W0 hW0
        have hY0 : Blk W0 w.heap.size e.cells := by rw [hW0]; exact hY.out.drew
        have hbW : Below w.heap.size w W0 := by rw [hW0]; exact hB.out.drew
        have f0 := HA.out.later (below_drew wA)
        rw [← hW0] at f0
        clear hW0
        (refine pl_take (d := 12) (v := ?_) rfl rfl rfl ?_ ?_; rotate_left; (focus ((intro w' hb0 hw'; go_simp) <;> with_reducible rfl)); simp only [Act.put, List.setIfInBounds_toArray, List.set_cons_zero, List.set_cons_succ])
        (refine pl_take (d := 13) (v := ?_) rfl rfl rfl ?_ ?_; rotate_left; (focus ((intro w' hb0 hw'; go_simp) <;> with_reducible rfl)); simp only [Act.put, List.setIfInBounds_toArray, List.set_cons_zero, List.set_cons_succ])
        (refine pl_take (d := 14) (v := ?_) rfl rfl rfl ?_ ?_; rotate_left; (focus ((intro w' hb0 hw'; go_simp) <;> with_reducible rfl)); simp only [Act.put, List.setIfInBounds_toArray, List.set_cons_zero, List.set_cons_succ])
        (refine pl_take (d := 15) (v := ?_) rfl rfl rfl ?_ ?_; rotate_left; (focus ((intro w' hb0 hw'; go_simp) <;> with_reducible rfl)); simp only [Act.put, List.setIfInBounds_toArray, List.set_cons_zero, List.set_cons_succ])
        (refine pl_take (d := 16) (v := ?_) rfl rfl rfl ?_ ?_; rotate_left; (focus ((intro w' hb0 hw'; have x9 : w'.cell? ⟨b1, p1 + k * 20 + 9, none⟩ = some (.int .i64 s.state) := (f0.later hw').get 9 (by simp [Ses.cells]); go_simp) <;> with_reducible rfl)); simp only [Act.put, List.setIfInBounds_toArray, List.set_cons_zero, List.set_cons_succ])
        refine pl_take (d := 17) (v := .bool true) rfl rfl rfl ?_ ?_
        · intro w' hb0 hw'
          have hh := G1.out
          go_simp
        simp only [Act.put, List.setIfInBounds_toArray, List.set_cons_zero, List.set_cons_succ]
        (refine pl_take (d := 18) (v := ?_) rfl rfl rfl ?_ ?_; rotate_left; (focus ((intro w' hb0 hw'; go_simp) <;> with_reducible rfl)); simp only [Act.put, List.setIfInBounds_toArray, List.set_cons_zero, List.set_cons_succ])
        (refine pl_take (d := 19) (v := ?_) rfl rfl rfl ?_ ?_; rotate_left; (focus ((intro w' hb0 hw'; go_simp) <;> with_reducible rfl)); simp only [Act.put, List.setIfInBounds_toArray, List.set_cons_zero, List.set_cons_succ])
        (refine pl_take (d := 20) (v := ?_) rfl rfl rfl ?_ ?_; rotate_left; (focus ((intro w' hb0 hw'; go_simp) <;> with_reducible rfl)); simp only [Act.put, List.setIfInBounds_toArray, List.set_cons_zero, List.set_cons_succ])
        (refine pl_take (d := 21) (v := ?_) rfl rfl rfl ?_ ?_; rotate_left; (focus ((intro w' hb0 hw'; go_simp) <;> with_reducible rfl)); simp only [Act.put, List.setIfInBounds_toArray, List.set_cons_zero, List.set_cons_succ])
        (refine pl_take (d := 22) (v := ?_) rfl rfl rfl ?_ ?_; rotate_left; (focus ((intro w' hb0 hw'; go_simp) <;> with_reducible rfl)); simp only [Act.put, List.setIfInBounds_toArray, List.set_cons_zero, List.set_cons_succ])
        refine pl_take (d := 23) (v := .agg s.peer.cells.toArray) rfl rfl rfl ?_ ?_
        · intro w' hb0 hw'
          exact run_load_at rfl ((f0.later hw').peer) (by rfl) row26
        simp only [Act.put, List.setIfInBounds_toArray, List.set_cons_zero, List.set_cons_succ]
        refine pl_take (d := 24) (v := .agg e.cells.toArray) rfl rfl rfl ?_ ?_
        · intro w' hb0 hw'
          exact run_load_blk rfl (hY0.later hw') (by rfl) row26
        simp only [Act.put, List.setIfInBounds_toArray, List.set_cons_zero, List.set_cons_succ]
        refine pl_one rfl rfl (fun K hK => ?_)
        go_simp
        refine (refWho39 s.peer e W0).mono ?_
        rintro r W1 ⟨rfl, hbk⟩
        refine hK _ _ (hbk : Rel none W0 W1) ?_
        clear hK
        replace hY0 := hY0.later hbk; replace hbW := below_step hbW hbk
        clear hbk f0
        (refine pl_take (d := 26) (v := ?_) rfl rfl rfl ?_ ?_; rotate_left; (focus ((intro w' hb0 hw'; go_simp) <;> with_reducible rfl)); simp only [Act.put, List.setIfInBounds_toArray, List.set_cons_zero, List.set_cons_succ])
        refine pl_end ?_
        have HY0 := Lib.hid hY0; have HBW := Lib.hid hbW
        clear hY0 hbW
        cases hwh : whoD s.peer e
        · have HN2 := Lib.hid (HN.out (by unfold asksD; simp [G1.out, hwh]))
          clear HN HY hwh
          go_wp2_with fail
          go_roundw
          case measure => (simp [intOf]) <;> omega
          case rel => exact ⟨k + 1, by omega, rfl, HN2, HY0, HBW⟩
        · have HY2 := Lib.hid (HY.out (by unfold asksD; simp [G1.out, hwh]))
          clear HN HY hwh
          go_wp2_with fail
          refine bodyPost_ret (v := .int .i64 (k : Int)) (by simp [results, Try.results19, go_sem]) rfl ⟨by rw [HY2.out], HBW.out⟩
      · have HN2 := Lib.hid (HN.out (by unfold asksD; simp [h1]))
        have G1 : Hid (¬ s.state = 1) := h1
        clear HN HY h1
        go_wp2_with fail
        refine wp_region_plan none [] [] (.take 0 (.take 1 (.take 2 (.take 3 (.take 4 (.take 5 (.take 6 (.take 7 (.take 8 (.take 9 (.take 10 (.take 11 (.take 12 (.one 13 (.take 14 .done))))))))))))))) (by kernel_rfl) (by kernel_rfl) (fun _ _ dd _ _ h => by cases dd <;> exact h) ?_
        intro W0 hW0
        have hY0 : Blk W0 w.heap.size e.cells := by rw [hW0]; exact hY.out.drew
        have hbW : Below w.heap.size w W0 := by rw [hW0]; exact hB.out.drew
        have f0 := HA.out.later (below_drew wA)
        rw [← hW0] at f0
        clear hW0
        (refine pl_take (d := 12) (v := ?_) rfl rfl rfl ?_ ?_; rotate_left; (focus ((intro w' hb0 hw'; go_simp) <;> with_reducible rfl)); simp only [Act.put, List.setIfInBounds_toArray, List.set_cons_zero, List.set_cons_succ])
        (refine pl_take (d := 13) (v := ?_) rfl rfl rfl ?_ ?_; rotate_left; (focus ((intro w' hb0 hw'; go_simp) <;> with_reducible rfl)); simp only [Act.put, List.setIfInBounds_toArray, List.set_cons_zero, List.set_cons_succ])
        (refine pl_take (d := 14) (v := ?_) rfl rfl rfl ?_ ?_; rotate_left; (focus ((intro w' hb0 hw'; go_simp) <;> with_reducible rfl)); simp only [Act.put, List.setIfInBounds_toArray, List.set_cons_zero, List.set_cons_succ])
        (refine pl_take (d := 15) (v := ?_) rfl rfl rfl ?_ ?_; rotate_left; (focus ((intro w' hb0 hw'; go_simp) <;> with_reducible rfl)); simp only [Act.put, List.setIfInBounds_toArray, List.set_cons_zero, List.set_cons_succ])
        (refine pl_take (d := 16) (v := ?_) rfl rfl rfl ?_ ?_; rotate_left; (focus ((intro w' hb0 hw'; have x9 : w'.cell? ⟨b1, p1 + k * 20 + 9, none⟩ = some (.int .i64 s.state) := (f0.later hw').get 9 (by simp [Ses.cells]); go_simp) <;> with_reducible rfl)); simp only [Act.put, List.setIfInBounds_toArray, List.set_cons_zero, List.set_cons_succ])
        refine pl_take (d := 17) (v := .bool false) rfl rfl rfl ?_ ?_
        · intro w' hb0 hw'
          have hh := G1.out
          go_simp
        simp only [Act.put, List.setIfInBounds_toArray, List.set_cons_zero, List.set_cons_succ]
        (refine pl_take (d := 18) (v := ?_) rfl rfl rfl ?_ ?_; rotate_left; (focus ((intro w' hb0 hw'; go_simp) <;> with_reducible rfl)); simp only [Act.put, List.setIfInBounds_toArray, List.set_cons_zero, List.set_cons_succ])
        (refine pl_skip (d := 19) rfl rfl rfl ?_; simp only [Act.put, List.setIfInBounds_toArray, List.set_cons_zero, List.set_cons_succ])
        (refine pl_skip (d := 20) rfl rfl rfl ?_; simp only [Act.put, List.setIfInBounds_toArray, List.set_cons_zero, List.set_cons_succ])
        (refine pl_skip (d := 21) rfl rfl rfl ?_; simp only [Act.put, List.setIfInBounds_toArray, List.set_cons_zero, List.set_cons_succ])
        (refine pl_skip (d := 22) rfl rfl rfl ?_; simp only [Act.put, List.setIfInBounds_toArray, List.set_cons_zero, List.set_cons_succ])
        (refine pl_skip (d := 23) rfl rfl rfl ?_; simp only [Act.put, List.setIfInBounds_toArray, List.set_cons_zero, List.set_cons_succ])
        (refine pl_skip (d := 24) rfl rfl rfl ?_; simp only [Act.put, List.setIfInBounds_toArray, List.set_cons_zero, List.set_cons_succ])
        (refine pl_skip1 (d := 25) rfl rfl rfl ?_; simp only [Act.put, List.setIfInBounds_toArray, List.set_cons_zero, List.set_cons_succ])
        (refine pl_take (d := 26) (v := ?_) rfl rfl rfl ?_ ?_; rotate_left; (focus ((intro w' hb0 hw'; go_simp) <;> with_reducible rfl)); simp only [Act.put, List.setIfInBounds_toArray, List.set_cons_zero, List.set_cons_succ])
        refine pl_end ?_
        clear f0
        have HY0 := Lib.hid hY0; have HBW := Lib.hid hbW
        clear hY0 hbW
        go_wp2_with fail
        go_roundw
        case measure => (simp [intOf]) <;> omega
        case rel => exact ⟨k + 1, by omega, rfl, HN2, HY0, HBW⟩
    · obtain rfl : k = l.length := by omega
      have HF2 := Lib.hid (idxD_none (asksD e) l (fun j hj => hS.out j hj hj))
      have hb1 := hB.out
      clear hS
      go_wp2
      refine bodyPost_ret (v := .int .i64 (-1)) (by simp [results, Try.results19, go_sem]) rfl ⟨by rw [HF2.out], hb1⟩

theorem spent41 (s : Ses) (w : World) : Calls Try.prog 41 #[.agg s.cells.toArray] w fun r w' => r = .returned (.bool (spentD s)) ∧ Below w.heap.size w w' := by
  have hal : Below w.heap.size w (w.alloc (.cells s.cells.toArray 30)) := (Below.refl _ _).alloc (Nat.le_refl _) _
  have hX : Blk (w.alloc (.cells s.cells.toArray 30)) w.heap.size s.cells := Blk.new' rfl
  have x15 : (w.alloc (.cells s.cells.toArray 30)).cell? ⟨w.heap.size, 15, none⟩ = some (.int .i64 s.seq) := ses_at hX 15 (by omega)
  have x12 : (w.alloc (.cells s.cells.toArray 30)).cell? ⟨w.heap.size, 12, none⟩ = some (.int .i64 s.epoch) := ses_at hX 12 (by omega)
  have hl2 := hX.lt
  have HB := Lib.hid hal
  have HV : Hid (spentD s = (decide (4096 ≤ s.seq) || decide (65535 ≤ s.epoch))) := rfl
  clear hal hX
  by_cases h1 : 4096 ≤ s.seq
  · have HR : Hid (spentD s = true) := by show _ = _; rw [HV.out]; simp [h1]
    clear HV
    go_enter Try.func41, Try.ntmps41
    go_wp2
    refine bodyPost_ret (v := .bool true) (by simp [results, Try.results41, go_sem]) rfl ⟨by rw [HR.out], HB.out⟩
  · by_cases h2 : 65535 ≤ s.epoch
    · have HR : Hid (spentD s = true) := by show _ = _; rw [HV.out]; simp [h2]
      clear HV
      go_enter Try.func41, Try.ntmps41
      go_wp2
      refine bodyPost_ret (v := .bool true) (by simp [results, Try.results41, go_sem, h2]) rfl ⟨by rw [HR.out], HB.out⟩
    · have HR : Hid (spentD s = false) := by show _ = _; rw [HV.out]; simp [h1, h2]
      clear HV
      go_enter Try.func41, Try.ntmps41
      go_wp2
      refine bodyPost_ret (v := .bool false) (by simp [results, Try.results41, go_sem, h2]) rfl ⟨by rw [HR.out], HB.out⟩
theorem spent42 (s : Ses) (w : World) : Calls Try.prog 42 #[.agg s.cells.toArray] w fun r w' => r = .returned (.bool (spentD s)) ∧ Below w.heap.size w w' := by
  have hal : Below w.heap.size w (w.alloc (.cells s.cells.toArray 30)) := (Below.refl _ _).alloc (Nat.le_refl _) _
  have hX : Blk (w.alloc (.cells s.cells.toArray 30)) w.heap.size s.cells := Blk.new' rfl
  have x15 : (w.alloc (.cells s.cells.toArray 30)).cell? ⟨w.heap.size, 15, none⟩ = some (.int .i64 s.seq) := ses_at hX 15 (by omega)
  have x12 : (w.alloc (.cells s.cells.toArray 30)).cell? ⟨w.heap.size, 12, none⟩ = some (.int .i64 s.epoch) := ses_at hX 12 (by omega)
  have hl2 := hX.lt
  have HB := Lib.hid hal
  have HV : Hid (spentD s = (decide (4096 ≤ s.seq) || decide (65535 ≤ s.epoch))) := rfl
  clear hal hX
  by_cases h1 : 4095 < s.seq
  · have HR : Hid (spentD s = true) := by show _ = _; rw [HV.out, decide_eq_true (by omega : 4096 ≤ s.seq)]; rfl
    clear HV
    go_enter Try.func42, Try.ntmps42
    go_wp2
    refine bodyPost_ret (v := .bool true) (by simp [results, Try.results42, go_sem]) rfl ⟨by rw [HR.out], HB.out⟩
  · by_cases h2 : 65534 < s.epoch
    · have HR : Hid (spentD s = true) := by show _ = _; rw [HV.out, decide_eq_true (by omega : 65535 ≤ s.epoch)]; simp
      clear HV
      go_enter Try.func42, Try.ntmps42
      go_wp2
      refine bodyPost_ret (v := .bool true) (by simp [results, Try.results42, go_sem, h2]) rfl ⟨by rw [HR.out], HB.out⟩
    · have HR : Hid (spentD s = false) := by show _ = _; rw [HV.out, decide_eq_false (by omega : ¬ 4096 ≤ s.seq), decide_eq_false (by omega : ¬ 65535 ≤ s.epoch)]; rfl
      clear HV
      go_enter Try.func42, Try.ntmps42
      go_wp2
      refine bodyPost_ret (v := .bool false) (by simp [results, Try.results42, go_sem, h2]) rfl ⟨by rw [HR.out], HB.out⟩

theorem refFor21 (l : List Ses) (e : En) (w : World) (oa : Option Addr) (m c : Nat) (h : RSes w oa m c l) :
    Calls Try.prog 21 #[.slice oa m c, .agg e.cells.toArray] w fun r w' => r = .returned (.int .i64 (lastN (forD e) l l.length)) ∧ Below w.heap.size w w' := by
  obtain rfl : m = l.length := h.rows.len
  have hal : Below w.heap.size w (w.alloc (.cells e.cells.toArray 26)) := (Below.refl _ _).alloc (Nat.le_refl _) _
  have hX : Blk (w.alloc (.cells e.cells.toArray 26)) w.heap.size e.cells := Blk.new' rfl
  have HB := Lib.hid hal; have HX := Lib.hid hX; have H := Lib.hid h
  clear hal hX h
  go_enter Try.func21, Try.ntmps21
  go_wp2_with fail
  go_loopw [5, 6] (fun v i wr => ∃ k : Nat, k ≤ l.length ∧ v = .int .i64 (lastN (forD e) l k) ∧ i = .int .i64 k ∧ Hid (Blk wr w.heap.size e.cells) ∧ Hid (Below w.heap.size w wr)) (fun _ i _ => l.length - (intOf i).toNat)
  case atStart => exact ⟨0, by omega, rfl, rfl, HX, HB⟩
  case round =>
    obtain ⟨k, hk, rfl, rfl, hY, hB⟩ := hrel
    by_cases hlt : k < l.length
    · have hi1 : (k : Int) < (l.length : Int) := by omega
      have rk : IntKind.i64.wrap ((k : Int) + 1) = ((k + 1 : Nat) : Int) := by
        have h1 := H.out.le; have h2 := H.out.cap
        simp only [maxLen] at h2
        rw [IntKind.wrap_i64]; omega
      obtain ⟨b1, p1, rfl, hA⟩ := (H.out.rows.below hB.out).ses hlt
      have HA := Lib.hid hA
      have HST : Hid (lastN (forD e) l (k + 1) = if forD e l[k] then (k : Int) else lastN (forD e) l k) := by
        show _ = _
        rw [lastN, List.getElem?_eq_getElem hlt]
      obtain ⟨s, hs⟩ : ∃ s, l[k] = s := ⟨_, rfl⟩
      obtain ⟨q, hq⟩ : ∃ q, lastN (forD e) l k = q := ⟨_, rfl⟩
      rw [hs] at HA
      rw [hs, hq] at HST
      rw [hq]
      clear hs hA hq
      obtain ⟨wA, rfl⟩ : ∃ q, q = wr := ⟨_, rfl⟩
      by_cases h1 : s.state = 3
      · have G1 : Hid (s.state = 3) := h1
        cases h2 : whoD s.peer e
        · have G2 : Hid (whoD s.peer e = false) := h2
          have HT : Hid (Value.int .i64 q = .int .i64 (lastN (forD e) l (k + 1))) := by show _ = _; rw [HST.out]; unfold forD; simp [h1, h2]
          clear h1 h2 HST
          go_wp2_with fail
          refine wp_region_plan none [] [] (.take 0 (.take 1 (.take 2 (.take 3 (.take 4 (.take 5 (.take 6 (.take 7 (.take 8 (.take 9 (.take 10 (.take 11 (.take 12 (.one 13 (.take 14 (.take 15 (.take 16 (.take 17 (.take 18 (.take 19 (.one 20 (.take 21 (.take 22 .done))))))))))))))))))))))) (by kernel_rfl) (by kernel_rfl) (fun _ _ dd _ _ h => by cases dd <;> exact h) ?_
          intro W0 hW0
          have hY0 : Blk W0 w.heap.size e.cells := by rw [hW0]; exact hY.out.drew
          have hbW : Below w.heap.size w W0 := by rw [hW0]; exact hB.out.drew
          have f0 := HA.out.later (below_drew wA)
          rw [← hW0] at f0
          clear hW0
          (refine pl_take (d := 13) (v := ?_) rfl rfl rfl ?_ ?_; rotate_left; (focus ((intro w' hb0 hw'; go_simp) <;> with_reducible rfl)); simp only [Act.put, List.setIfInBounds_toArray, List.set_cons_zero, List.set_cons_succ])
          (refine pl_take (d := 14) (v := ?_) rfl rfl rfl ?_ ?_; rotate_left; (focus ((intro w' hb0 hw'; go_simp) <;> with_reducible rfl)); simp only [Act.put, List.setIfInBounds_toArray, List.set_cons_zero, List.set_cons_succ])
          (refine pl_take (d := 15) (v := ?_) rfl rfl rfl ?_ ?_; rotate_left; (focus ((intro w' hb0 hw'; go_simp) <;> with_reducible rfl)); simp only [Act.put, List.setIfInBounds_toArray, List.set_cons_zero, List.set_cons_succ])
          (refine pl_take (d := 16) (v := ?_) rfl rfl rfl ?_ ?_; rotate_left; (focus ((intro w' hb0 hw'; go_simp) <;> with_reducible rfl)); simp only [Act.put, List.setIfInBounds_toArray, List.set_cons_zero, List.set_cons_succ])
          (refine pl_take (d := 17) (v := ?_) rfl rfl rfl ?_ ?_; rotate_left; (focus ((intro w' hb0 hw'; have x9 : w'.cell? ⟨b1, p1 + k * 20 + 9, none⟩ = some (.int .i64 s.state) := (f0.later hw').get 9 (by simp [Ses.cells]); go_simp) <;> with_reducible rfl)); simp only [Act.put, List.setIfInBounds_toArray, List.set_cons_zero, List.set_cons_succ])
          refine pl_take (d := 18) (v := .bool true) rfl rfl rfl ?_ ?_
          · intro w' hb0 hw'
            have hh := G1.out
            go_simp
          simp only [Act.put, List.setIfInBounds_toArray, List.set_cons_zero, List.set_cons_succ]
          (refine pl_take (d := 19) (v := ?_) rfl rfl rfl ?_ ?_; rotate_left; (focus ((intro w' hb0 hw'; go_simp) <;> with_reducible rfl)); simp only [Act.put, List.setIfInBounds_toArray, List.set_cons_zero, List.set_cons_succ])
          (refine pl_take (d := 20) (v := ?_) rfl rfl rfl ?_ ?_; rotate_left; (focus ((intro w' hb0 hw'; go_simp) <;> with_reducible rfl)); simp only [Act.put, List.setIfInBounds_toArray, List.set_cons_zero, List.set_cons_succ])
          (refine pl_take (d := 21) (v := ?_) rfl rfl rfl ?_ ?_; rotate_left; (focus ((intro w' hb0 hw'; go_simp) <;> with_reducible rfl)); simp only [Act.put, List.setIfInBounds_toArray, List.set_cons_zero, List.set_cons_succ])
          (refine pl_take (d := 22) (v := ?_) rfl rfl rfl ?_ ?_; rotate_left; (focus ((intro w' hb0 hw'; go_simp) <;> with_reducible rfl)); simp only [Act.put, List.setIfInBounds_toArray, List.set_cons_zero, List.set_cons_succ])
          (refine pl_take (d := 23) (v := ?_) rfl rfl rfl ?_ ?_; rotate_left; (focus ((intro w' hb0 hw'; go_simp) <;> with_reducible rfl)); simp only [Act.put, List.setIfInBounds_toArray, List.set_cons_zero, List.set_cons_succ])
          refine pl_take (d := 24) (v := .agg s.peer.cells.toArray) rfl rfl rfl ?_ ?_
          · intro w' hb0 hw'
            exact run_load_at rfl ((f0.later hw').peer) (by rfl) row26
          simp only [Act.put, List.setIfInBounds_toArray, List.set_cons_zero, List.set_cons_succ]
          refine pl_take (d := 25) (v := .agg e.cells.toArray) rfl rfl rfl ?_ ?_
          · intro w' hb0 hw'
            exact run_load_blk rfl (hY0.later hw') (by rfl) row26
          simp only [Act.put, List.setIfInBounds_toArray, List.set_cons_zero, List.set_cons_succ]
          refine pl_one rfl rfl (fun K hK => ?_)
          go_simp
          refine (refWho39 s.peer e W0).mono ?_
          rintro r W1 ⟨rfl, hbk⟩
          rw [G2.out]
          refine hK _ _ (hbk : Rel none W0 W1) ?_
          clear hK
          replace hY0 := hY0.later hbk; replace hbW := below_step hbW hbk; replace f0 := f0.later hbk
          clear hbk
          generalize W1 = W0 at *
          (refine pl_take (d := 27) (v := ?_) rfl rfl rfl ?_ ?_; rotate_left; (focus ((intro w' hb0 hw'; go_simp) <;> with_reducible rfl)); simp only [Act.put, List.setIfInBounds_toArray, List.set_cons_zero, List.set_cons_succ])
          (refine pl_take (d := 28) (v := ?_) rfl rfl rfl ?_ ?_; rotate_left; (focus ((intro w' hb0 hw'; go_simp) <;> with_reducible rfl)); simp only [Act.put, List.setIfInBounds_toArray, List.set_cons_zero, List.set_cons_succ])
          (refine pl_skip (d := 29) rfl rfl rfl ?_; simp only [Act.put, List.setIfInBounds_toArray, List.set_cons_zero, List.set_cons_succ])
          (refine pl_skip (d := 30) rfl rfl rfl ?_; simp only [Act.put, List.setIfInBounds_toArray, List.set_cons_zero, List.set_cons_succ])
          (refine pl_skip (d := 31) rfl rfl rfl ?_; simp only [Act.put, List.setIfInBounds_toArray, List.set_cons_zero, List.set_cons_succ])
          (refine pl_skip (d := 32) rfl rfl rfl ?_; simp only [Act.put, List.setIfInBounds_toArray, List.set_cons_zero, List.set_cons_succ])
          (refine pl_skip1 (d := 33) rfl rfl rfl ?_; simp only [Act.put, List.setIfInBounds_toArray, List.set_cons_zero, List.set_cons_succ])
          (refine pl_skip (d := 34) rfl rfl rfl ?_; simp only [Act.put, List.setIfInBounds_toArray, List.set_cons_zero, List.set_cons_succ])
          (refine pl_take (d := 35) (v := ?_) rfl rfl rfl ?_ ?_; rotate_left; (focus ((intro w' hb0 hw'; go_simp) <;> with_reducible rfl)); simp only [Act.put, List.setIfInBounds_toArray, List.set_cons_zero, List.set_cons_succ])
          refine pl_end ?_
          clear f0
          have HY0 := Lib.hid hY0; have HBW := Lib.hid hbW
          clear hY0 hbW
          go_wp2_with fail
          go_roundw
          case measure => (simp [intOf]) <;> omega
          case rel => exact ⟨k + 1, by omega, HT.out, rfl, HY0, HBW⟩
        · have G2 : Hid (whoD s.peer e = true) := h2
          cases h3 : spentD s
          · have G3 : Hid (spentD s = false) := h3
            have HT : Hid (Value.int .i64 (k : Int) = .int .i64 (lastN (forD e) l (k + 1))) := by show _ = _; rw [HST.out]; unfold forD; simp [h1, h2, h3]
            clear h1 h2 h3 HST
            go_wp2_with fail
            refine wp_region_plan none [] [] (.take 0 (.take 1 (.take 2 (.take 3 (.take 4 (.take 5 (.take 6 (.take 7 (.take 8 (.take 9 (.take 10 (.take 11 (.take 12 (.one 13 (.take 14 (.take 15 (.take 16 (.take 17 (.take 18 (.take 19 (.one 20 (.take 21 (.take 22 .done))))))))))))))))))))))) (by kernel_rfl) (by kernel_rfl) (fun _ _ dd _ _ h => by cases dd <;> exact h) ?_
            intro W0 hW0
            have hY0 : Blk W0 w.heap.size e.cells := by rw [hW0]; exact hY.out.drew
            have hbW : Below w.heap.size w W0 := by rw [hW0]; exact hB.out.drew
            have f0 := HA.out.later (below_drew wA)
            rw [← hW0] at f0
            clear hW0
            (refine pl_take (d := 13) (v := ?_) rfl rfl rfl ?_ ?_; rotate_left; (focus ((intro w' hb0 hw'; go_simp) <;> with_reducible rfl)); simp only [Act.put, List.setIfInBounds_toArray, List.set_cons_zero, List.set_cons_succ])
            (refine pl_take (d := 14) (v := ?_) rfl rfl rfl ?_ ?_; rotate_left; (focus ((intro w' hb0 hw'; go_simp) <;> with_reducible rfl)); simp only [Act.put, List.setIfInBounds_toArray, List.set_cons_zero, List.set_cons_succ])
            (refine pl_take (d := 15) (v := ?_) rfl rfl rfl ?_ ?_; rotate_left; (focus ((intro w' hb0 hw'; go_simp) <;> with_reducible rfl)); simp only [Act.put, List.setIfInBounds_toArray, List.set_cons_zero, List.set_cons_succ])
            (refine pl_take (d := 16) (v := ?_) rfl rfl rfl ?_ ?_; rotate_left; (focus ((intro w' hb0 hw'; go_simp) <;> with_reducible rfl)); simp only [Act.put, List.setIfInBounds_toArray, List.set_cons_zero, List.set_cons_succ])
            (refine pl_take (d := 17) (v := ?_) rfl rfl rfl ?_ ?_; rotate_left; (focus ((intro w' hb0 hw'; have x9 : w'.cell? ⟨b1, p1 + k * 20 + 9, none⟩ = some (.int .i64 s.state) := (f0.later hw').get 9 (by simp [Ses.cells]); go_simp) <;> with_reducible rfl)); simp only [Act.put, List.setIfInBounds_toArray, List.set_cons_zero, List.set_cons_succ])
            refine pl_take (d := 18) (v := .bool true) rfl rfl rfl ?_ ?_
            · intro w' hb0 hw'
              have hh := G1.out
              go_simp
            simp only [Act.put, List.setIfInBounds_toArray, List.set_cons_zero, List.set_cons_succ]
            (refine pl_take (d := 19) (v := ?_) rfl rfl rfl ?_ ?_; rotate_left; (focus ((intro w' hb0 hw'; go_simp) <;> with_reducible rfl)); simp only [Act.put, List.setIfInBounds_toArray, List.set_cons_zero, List.set_cons_succ])
            (refine pl_take (d := 20) (v := ?_) rfl rfl rfl ?_ ?_; rotate_left; (focus ((intro w' hb0 hw'; go_simp) <;> with_reducible rfl)); simp only [Act.put, List.setIfInBounds_toArray, List.set_cons_zero, List.set_cons_succ])
            (refine pl_take (d := 21) (v := ?_) rfl rfl rfl ?_ ?_; rotate_left; (focus ((intro w' hb0 hw'; go_simp) <;> with_reducible rfl)); simp only [Act.put, List.setIfInBounds_toArray, List.set_cons_zero, List.set_cons_succ])
            (refine pl_take (d := 22) (v := ?_) rfl rfl rfl ?_ ?_; rotate_left; (focus ((intro w' hb0 hw'; go_simp) <;> with_reducible rfl)); simp only [Act.put, List.setIfInBounds_toArray, List.set_cons_zero, List.set_cons_succ])
            (refine pl_take (d := 23) (v := ?_) rfl rfl rfl ?_ ?_; rotate_left; (focus ((intro w' hb0 hw'; go_simp) <;> with_reducible rfl)); simp only [Act.put, List.setIfInBounds_toArray, List.set_cons_zero, List.set_cons_succ])
            refine pl_take (d := 24) (v := .agg s.peer.cells.toArray) rfl rfl rfl ?_ ?_
            · intro w' hb0 hw'
              exact run_load_at rfl ((f0.later hw').peer) (by rfl) row26
            simp only [Act.put, List.setIfInBounds_toArray, List.set_cons_zero, List.set_cons_succ]
            refine pl_take (d := 25) (v := .agg e.cells.toArray) rfl rfl rfl ?_ ?_
            · intro w' hb0 hw'
              exact run_load_blk rfl (hY0.later hw') (by rfl) row26
            simp only [Act.put, List.setIfInBounds_toArray, List.set_cons_zero, List.set_cons_succ]
            refine pl_one rfl rfl (fun K hK => ?_)
            go_simp
            refine (refWho39 s.peer e W0).mono ?_
            rintro r W1 ⟨rfl, hbk⟩
            rw [G2.out]
            refine hK _ _ (hbk : Rel none W0 W1) ?_
            clear hK
            replace hY0 := hY0.later hbk; replace hbW := below_step hbW hbk; replace f0 := f0.later hbk
            clear hbk
            generalize W1 = W0 at *
            (refine pl_take (d := 27) (v := ?_) rfl rfl rfl ?_ ?_; rotate_left; (focus ((intro w' hb0 hw'; go_simp) <;> with_reducible rfl)); simp only [Act.put, List.setIfInBounds_toArray, List.set_cons_zero, List.set_cons_succ])
            (refine pl_take (d := 28) (v := ?_) rfl rfl rfl ?_ ?_; rotate_left; (focus ((intro w' hb0 hw'; go_simp) <;> with_reducible rfl)); simp only [Act.put, List.setIfInBounds_toArray, List.set_cons_zero, List.set_cons_succ])
            (refine pl_take (d := 29) (v := ?_) rfl rfl rfl ?_ ?_; rotate_left; (focus ((intro w' hb0 hw'; go_simp) <;> with_reducible rfl)); simp only [Act.put, List.setIfInBounds_toArray, List.set_cons_zero, List.set_cons_succ])
            (refine pl_take (d := 30) (v := ?_) rfl rfl rfl ?_ ?_; rotate_left; (focus ((intro w' hb0 hw'; go_simp) <;> with_reducible rfl)); simp only [Act.put, List.setIfInBounds_toArray, List.set_cons_zero, List.set_cons_succ])
            (refine pl_take (d := 31) (v := ?_) rfl rfl rfl ?_ ?_; rotate_left; (focus ((intro w' hb0 hw'; go_simp) <;> with_reducible rfl)); simp only [Act.put, List.setIfInBounds_toArray, List.set_cons_zero, List.set_cons_succ])
            refine pl_take (d := 32) (v := .agg s.cells.toArray) rfl rfl rfl ?_ ?_
            · intro w' hb0 hw'
              exact run_load_at rfl (f0.later hw') (by rfl) row30
            simp only [Act.put, List.setIfInBounds_toArray, List.set_cons_zero, List.set_cons_succ]
            refine pl_one rfl rfl (fun K hK => ?_)
            go_simp
            refine (spent42 s W0).mono ?_
            rintro r W1 ⟨rfl, hbk⟩
            rw [G3.out]
            refine hK _ _ (hbk : Rel none W0 W1) ?_
            clear hK
            replace hY0 := hY0.later hbk; replace hbW := below_step hbW hbk
            clear hbk f0
            generalize W1 = W0 at *
            (refine pl_take (d := 34) (v := ?_) rfl rfl rfl ?_ ?_; rotate_left; (focus ((intro w' hb0 hw'; go_simp) <;> with_reducible rfl)); simp only [Act.put, List.setIfInBounds_toArray, List.set_cons_zero, List.set_cons_succ])
            (refine pl_take (d := 35) (v := ?_) rfl rfl rfl ?_ ?_; rotate_left; (focus ((intro w' hb0 hw'; go_simp) <;> with_reducible rfl)); simp only [Act.put, List.setIfInBounds_toArray, List.set_cons_zero, List.set_cons_succ])
            refine pl_end ?_
            have HY0 := Lib.hid hY0; have HBW := Lib.hid hbW
            clear hY0 hbW
            go_wp2_with fail
            go_roundw
            case measure => (simp [intOf]) <;> omega
            case rel => exact ⟨k + 1, by omega, HT.out, rfl, HY0, HBW⟩
          · have G3 : Hid (spentD s = true) := h3
            have HT : Hid (Value.int .i64 q = .int .i64 (lastN (forD e) l (k + 1))) := by show _ = _; rw [HST.out]; unfold forD; simp [h1, h2, h3]
            clear h1 h2 h3 HST
            go_wp2_with fail
            refine wp_region_plan none [] [] (.take 0 (.take 1 (.take 2 (.take 3 (.take 4 (.take 5 (.take 6 (.take 7 (.take 8 (.take 9 (.take 10 (.take 11 (.take 12 (.one 13 (.take 14 (.take 15 (.take 16 (.take 17 (.take 18 (.take 19 (.one 20 (.take 21 (.take 22 .done))))))))))))))))))))))) (by kernel_rfl) (by kernel_rfl) (fun _ _ dd _ _ h => by cases dd <;> exact h) ?_
            intro W0 hW0
            have hY0 : Blk W0 w.heap.size e.cells := by rw [hW0]; exact hY.out.drew
            have hbW : Below w.heap.size w W0 := by rw [hW0]; exact hB.out.drew
            have f0 := HA.out.later (below_drew wA)
            rw [← hW0] at f0
            clear hW0
            (refine pl_take (d := 13) (v := ?_) rfl rfl rfl ?_ ?_; rotate_left; (focus ((intro w' hb0 hw'; go_simp) <;> with_reducible rfl)); simp only [Act.put, List.setIfInBounds_toArray, List.set_cons_zero, List.set_cons_succ])
            (refine pl_take (d := 14) (v := ?_) rfl rfl rfl ?_ ?_; rotate_left; (focus ((intro w' hb0 hw'; go_simp) <;> with_reducible rfl)); simp only [Act.put, List.setIfInBounds_toArray, List.set_cons_zero, List.set_cons_succ])
            (refine pl_take (d := 15) (v := ?_) rfl rfl rfl ?_ ?_; rotate_left; (focus ((intro w' hb0 hw'; go_simp) <;> with_reducible rfl)); simp only [Act.put, List.setIfInBounds_toArray, List.set_cons_zero, List.set_cons_succ])
            (refine pl_take (d := 16) (v := ?_) rfl rfl rfl ?_ ?_; rotate_left; (focus ((intro w' hb0 hw'; go_simp) <;> with_reducible rfl)); simp only [Act.put, List.setIfInBounds_toArray, List.set_cons_zero, List.set_cons_succ])
            (refine pl_take (d := 17) (v := ?_) rfl rfl rfl ?_ ?_; rotate_left; (focus ((intro w' hb0 hw'; have x9 : w'.cell? ⟨b1, p1 + k * 20 + 9, none⟩ = some (.int .i64 s.state) := (f0.later hw').get 9 (by simp [Ses.cells]); go_simp) <;> with_reducible rfl)); simp only [Act.put, List.setIfInBounds_toArray, List.set_cons_zero, List.set_cons_succ])
            refine pl_take (d := 18) (v := .bool true) rfl rfl rfl ?_ ?_
            · intro w' hb0 hw'
              have hh := G1.out
              go_simp
            simp only [Act.put, List.setIfInBounds_toArray, List.set_cons_zero, List.set_cons_succ]
            (refine pl_take (d := 19) (v := ?_) rfl rfl rfl ?_ ?_; rotate_left; (focus ((intro w' hb0 hw'; go_simp) <;> with_reducible rfl)); simp only [Act.put, List.setIfInBounds_toArray, List.set_cons_zero, List.set_cons_succ])
            (refine pl_take (d := 20) (v := ?_) rfl rfl rfl ?_ ?_; rotate_left; (focus ((intro w' hb0 hw'; go_simp) <;> with_reducible rfl)); simp only [Act.put, List.setIfInBounds_toArray, List.set_cons_zero, List.set_cons_succ])
            (refine pl_take (d := 21) (v := ?_) rfl rfl rfl ?_ ?_; rotate_left; (focus ((intro w' hb0 hw'; go_simp) <;> with_reducible rfl)); simp only [Act.put, List.setIfInBounds_toArray, List.set_cons_zero, List.set_cons_succ])
            (refine pl_take (d := 22) (v := ?_) rfl rfl rfl ?_ ?_; rotate_left; (focus ((intro w' hb0 hw'; go_simp) <;> with_reducible rfl)); simp only [Act.put, List.setIfInBounds_toArray, List.set_cons_zero, List.set_cons_succ])
            (refine pl_take (d := 23) (v := ?_) rfl rfl rfl ?_ ?_; rotate_left; (focus ((intro w' hb0 hw'; go_simp) <;> with_reducible rfl)); simp only [Act.put, List.setIfInBounds_toArray, List.set_cons_zero, List.set_cons_succ])
            refine pl_take (d := 24) (v := .agg s.peer.cells.toArray) rfl rfl rfl ?_ ?_
            · intro w' hb0 hw'
              exact run_load_at rfl ((f0.later hw').peer) (by rfl) row26
            simp only [Act.put, List.setIfInBounds_toArray, List.set_cons_zero, List.set_cons_succ]
            refine pl_take (d := 25) (v := .agg e.cells.toArray) rfl rfl rfl ?_ ?_
            · intro w' hb0 hw'
              exact run_load_blk rfl (hY0.later hw') (by rfl) row26
            simp only [Act.put, List.setIfInBounds_toArray, List.set_cons_zero, List.set_cons_succ]
            refine pl_one rfl rfl (fun K hK => ?_)
            go_simp
            refine (refWho39 s.peer e W0).mono ?_
            rintro r W1 ⟨rfl, hbk⟩
            rw [G2.out]
            refine hK _ _ (hbk : Rel none W0 W1) ?_
            clear hK
            replace hY0 := hY0.later hbk; replace hbW := below_step hbW hbk; replace f0 := f0.later hbk
            clear hbk
            generalize W1 = W0 at *
            (refine pl_take (d := 27) (v := ?_) rfl rfl rfl ?_ ?_; rotate_left; (focus ((intro w' hb0 hw'; go_simp) <;> with_reducible rfl)); simp only [Act.put, List.setIfInBounds_toArray, List.set_cons_zero, List.set_cons_succ])
            (refine pl_take (d := 28) (v := ?_) rfl rfl rfl ?_ ?_; rotate_left; (focus ((intro w' hb0 hw'; go_simp) <;> with_reducible rfl)); simp only [Act.put, List.setIfInBounds_toArray, List.set_cons_zero, List.set_cons_succ])
            (refine pl_take (d := 29) (v := ?_) rfl rfl rfl ?_ ?_; rotate_left; (focus ((intro w' hb0 hw'; go_simp) <;> with_reducible rfl)); simp only [Act.put, List.setIfInBounds_toArray, List.set_cons_zero, List.set_cons_succ])
            (refine pl_take (d := 30) (v := ?_) rfl rfl rfl ?_ ?_; rotate_left; (focus ((intro w' hb0 hw'; go_simp) <;> with_reducible rfl)); simp only [Act.put, List.setIfInBounds_toArray, List.set_cons_zero, List.set_cons_succ])
            (refine pl_take (d := 31) (v := ?_) rfl rfl rfl ?_ ?_; rotate_left; (focus ((intro w' hb0 hw'; go_simp) <;> with_reducible rfl)); simp only [Act.put, List.setIfInBounds_toArray, List.set_cons_zero, List.set_cons_succ])
            refine pl_take (d := 32) (v := .agg s.cells.toArray) rfl rfl rfl ?_ ?_
            · intro w' hb0 hw'
              exact run_load_at rfl (f0.later hw') (by rfl) row30
            simp only [Act.put, List.setIfInBounds_toArray, List.set_cons_zero, List.set_cons_succ]
            refine pl_one rfl rfl (fun K hK => ?_)
            go_simp
            refine (spent42 s W0).mono ?_
            rintro r W1 ⟨rfl, hbk⟩
            rw [G3.out]
            refine hK _ _ (hbk : Rel none W0 W1) ?_
            clear hK
            replace hY0 := hY0.later hbk; replace hbW := below_step hbW hbk
            clear hbk f0
            generalize W1 = W0 at *
            (refine pl_take (d := 34) (v := ?_) rfl rfl rfl ?_ ?_; rotate_left; (focus ((intro w' hb0 hw'; go_simp) <;> with_reducible rfl)); simp only [Act.put, List.setIfInBounds_toArray, List.set_cons_zero, List.set_cons_succ])
            (refine pl_take (d := 35) (v := ?_) rfl rfl rfl ?_ ?_; rotate_left; (focus ((intro w' hb0 hw'; go_simp) <;> with_reducible rfl)); simp only [Act.put, List.setIfInBounds_toArray, List.set_cons_zero, List.set_cons_succ])
            refine pl_end ?_
            have HY0 := Lib.hid hY0; have HBW := Lib.hid hbW
            clear hY0 hbW
            go_wp2_with fail
            go_roundw
            case measure => (simp [intOf]) <;> omega
            case rel => exact ⟨k + 1, by omega, HT.out, rfl, HY0, HBW⟩
      · have G1 : Hid (¬ s.state = 3) := h1
        have HT : Hid (Value.int .i64 q = .int .i64 (lastN (forD e) l (k + 1))) := by show _ = _; rw [HST.out]; unfold forD; simp [h1]
        clear h1 HST
        go_wp2_with fail
        refine wp_region_plan none [] [] (.take 0 (.take 1 (.take 2 (.take 3 (.take 4 (.take 5 (.take 6 (.take 7 (.take 8 (.take 9 (.take 10 (.take 11 (.take 12 (.one 13 (.take 14 (.take 15 (.take 16 (.take 17 (.take 18 (.take 19 (.one 20 (.take 21 (.take 22 .done))))))))))))))))))))))) (by kernel_rfl) (by kernel_rfl) (fun _ _ dd _ _ h => by cases dd <;> exact h) ?_
        intro W0 hW0
        have hY0 : Blk W0 w.heap.size e.cells := by rw [hW0]; exact hY.out.drew
        have hbW : Below w.heap.size w W0 := by rw [hW0]; exact hB.out.drew
        have f0 := HA.out.later (below_drew wA)
        rw [← hW0] at f0
        clear hW0
        (refine pl_take (d := 13) (v := ?_) rfl rfl rfl ?_ ?_; rotate_left; (focus ((intro w' hb0 hw'; go_simp) <;> with_reducible rfl)); simp only [Act.put, List.setIfInBounds_toArray, List.set_cons_zero, List.set_cons_succ])
        (refine pl_take (d := 14) (v := ?_) rfl rfl rfl ?_ ?_; rotate_left; (focus ((intro w' hb0 hw'; go_simp) <;> with_reducible rfl)); simp only [Act.put, List.setIfInBounds_toArray, List.set_cons_zero, List.set_cons_succ])
        (refine pl_take (d := 15) (v := ?_) rfl rfl rfl ?_ ?_; rotate_left; (focus ((intro w' hb0 hw'; go_simp) <;> with_reducible rfl)); simp only [Act.put, List.setIfInBounds_toArray, List.set_cons_zero, List.set_cons_succ])
        (refine pl_take (d := 16) (v := ?_) rfl rfl rfl ?_ ?_; rotate_left; (focus ((intro w' hb0 hw'; go_simp) <;> with_reducible rfl)); simp only [Act.put, List.setIfInBounds_toArray, List.set_cons_zero, List.set_cons_succ])
        (refine pl_take (d := 17) (v := ?_) rfl rfl rfl ?_ ?_; rotate_left; (focus ((intro w' hb0 hw'; have x9 : w'.cell? ⟨b1, p1 + k * 20 + 9, none⟩ = some (.int .i64 s.state) := (f0.later hw').get 9 (by simp [Ses.cells]); go_simp) <;> with_reducible rfl)); simp only [Act.put, List.setIfInBounds_toArray, List.set_cons_zero, List.set_cons_succ])
        refine pl_take (d := 18) (v := .bool false) rfl rfl rfl ?_ ?_
        · intro w' hb0 hw'
          have hh := G1.out
          go_simp
        simp only [Act.put, List.setIfInBounds_toArray, List.set_cons_zero, List.set_cons_succ]
        (refine pl_take (d := 19) (v := ?_) rfl rfl rfl ?_ ?_; rotate_left; (focus ((intro w' hb0 hw'; go_simp) <;> with_reducible rfl)); simp only [Act.put, List.setIfInBounds_toArray, List.set_cons_zero, List.set_cons_succ])
        (refine pl_skip (d := 20) rfl rfl rfl ?_; simp only [Act.put, List.setIfInBounds_toArray, List.set_cons_zero, List.set_cons_succ])
        (refine pl_skip (d := 21) rfl rfl rfl ?_; simp only [Act.put, List.setIfInBounds_toArray, List.set_cons_zero, List.set_cons_succ])
        (refine pl_skip (d := 22) rfl rfl rfl ?_; simp only [Act.put, List.setIfInBounds_toArray, List.set_cons_zero, List.set_cons_succ])
        (refine pl_skip (d := 23) rfl rfl rfl ?_; simp only [Act.put, List.setIfInBounds_toArray, List.set_cons_zero, List.set_cons_succ])
        (refine pl_skip (d := 24) rfl rfl rfl ?_; simp only [Act.put, List.setIfInBounds_toArray, List.set_cons_zero, List.set_cons_succ])
        (refine pl_skip (d := 25) rfl rfl rfl ?_; simp only [Act.put, List.setIfInBounds_toArray, List.set_cons_zero, List.set_cons_succ])
        (refine pl_skip1 (d := 26) rfl rfl rfl ?_; simp only [Act.put, List.setIfInBounds_toArray, List.set_cons_zero, List.set_cons_succ])
        (refine pl_take (d := 27) (v := ?_) rfl rfl rfl ?_ ?_; rotate_left; (focus ((intro w' hb0 hw'; go_simp) <;> with_reducible rfl)); simp only [Act.put, List.setIfInBounds_toArray, List.set_cons_zero, List.set_cons_succ])
        (refine pl_take (d := 28) (v := ?_) rfl rfl rfl ?_ ?_; rotate_left; (focus ((intro w' hb0 hw'; go_simp) <;> with_reducible rfl)); simp only [Act.put, List.setIfInBounds_toArray, List.set_cons_zero, List.set_cons_succ])
        (refine pl_skip (d := 29) rfl rfl rfl ?_; simp only [Act.put, List.setIfInBounds_toArray, List.set_cons_zero, List.set_cons_succ])
        (refine pl_skip (d := 30) rfl rfl rfl ?_; simp only [Act.put, List.setIfInBounds_toArray, List.set_cons_zero, List.set_cons_succ])
        (refine pl_skip (d := 31) rfl rfl rfl ?_; simp only [Act.put, List.setIfInBounds_toArray, List.set_cons_zero, List.set_cons_succ])
        (refine pl_skip (d := 32) rfl rfl rfl ?_; simp only [Act.put, List.setIfInBounds_toArray, List.set_cons_zero, List.set_cons_succ])
        (refine pl_skip1 (d := 33) rfl rfl rfl ?_; simp only [Act.put, List.setIfInBounds_toArray, List.set_cons_zero, List.set_cons_succ])
        (refine pl_skip (d := 34) rfl rfl rfl ?_; simp only [Act.put, List.setIfInBounds_toArray, List.set_cons_zero, List.set_cons_succ])
        (refine pl_take (d := 35) (v := ?_) rfl rfl rfl ?_ ?_; rotate_left; (focus ((intro w' hb0 hw'; go_simp) <;> with_reducible rfl)); simp only [Act.put, List.setIfInBounds_toArray, List.set_cons_zero, List.set_cons_succ])
        refine pl_end ?_
        clear f0
        have HY0 := Lib.hid hY0; have HBW := Lib.hid hbW
        clear hY0 hbW
        go_wp2_with fail
        go_roundw
        case measure => (simp [intOf]) <;> omega
        case rel => exact ⟨k + 1, by omega, HT.out, rfl, HY0, HBW⟩
    · obtain rfl : k = l.length := by omega
      have hb1 := hB.out
      go_wp2
      refine bodyPost_ret (v := .int .i64 (lastN (forD e) l l.length)) (by simp [results, Try.results21, go_sem]) rfl ⟨rfl, hb1⟩
end Go.Proofs.Ytmfglppgpjplfaa
