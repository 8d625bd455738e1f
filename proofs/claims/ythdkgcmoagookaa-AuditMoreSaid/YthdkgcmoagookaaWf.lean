/-
  Sessions with issued ones; identifiers that are apart; peers that are the same.
-/
import Derived.Test.YthdkgcmoagookaaWe
namespace Go.Proofs.Ythdkgcmoagookaa
open Go.RowKit Go.Proofs.Ythdkgcmoagookaa.Plan Go.Proofs.Ythdkgcmoagookaa.Eager
set_option maxHeartbeats 4000000
set_option maxRecDepth 20000
set_option linter.unusedVariables false
set_option linter.unusedSimpArgs false

theorem At.peer {w : World} {b o : Nat} {p : Ses} (h : At w b o p.cells) : At w b (o + 2) p.peer.cells := h.sub fun j hj => by
  simp only [En.cells, List.length_cons, List.length_nil] at hj
  rcases (by omega : j = 0 ∨ j = 1 ∨ j = 2 ∨ j = 3 ∨ j = 4 ∨ j = 5) with rfl | rfl | rfl | rfl | rfl | rfl <;> rfl
/-- is it with one that was not issued? -/
def strayD (iss : List En) (s : Ses) : Bool := decide (¬ s.state = 1) && !inD iss s.peer
def sessD (iss : List En) (l : List Ses) : Bool := !l.any (strayD iss)
/-- a slice that lies in a block -/
structure Box (w : World) (B : Nat) (oa : Option Addr) (m c : Nat) (iss : List En) : Prop where
  cell : w.cell? ⟨B, 0, none⟩ = some (.slice oa m c)
  rows : REn w oa m c iss
theorem Box.below {w w' : World} {B : Nat} {oa : Option Addr} {m c : Nat} {iss : List En} (h : Box w B oa m c iss) (hb : Below w.heap.size w w') : Box w' B oa m c iss := ⟨cell_later h.cell hb, h.rows.below hb⟩

theorem stray32 (iss : List En) (B : Nat) (oa : Option Addr) (m c : Nat) (s : Ses) (w : World) (hB : Box w B oa m c iss) :
    Calls Try.prog 32 #[.agg s.cells.toArray, .pointer (some ⟨B, 0, none⟩)] w fun r w' => r = .returned (.bool (strayD iss s)) ∧ Below w.heap.size w w' := by
  have hal : Below w.heap.size w (w.alloc (.cells s.cells.toArray 77)) := (Below.refl _ _).alloc (Nat.le_refl _) _
  have hX : Blk (w.alloc (.cells s.cells.toArray 77)) w.heap.size s.cells := Blk.new' rfl
  have hc := (hB.below hal).cell
  have hlt := World.block_lt_of_cell? _ ⟨B, 0, none⟩ hc
  have hR := Lib.hid (hB.below hal).rows
  have x9 : (w.alloc (.cells s.cells.toArray 77)).cell? ⟨w.heap.size, 9, none⟩ = some (.int .i64 s.state) := ses_at hX 9 (by omega)
  have hl2 := hX.lt
  have HX := Lib.hid hX
  have HB := Lib.hid hal
  have HV : Hid (strayD iss s = (decide (¬ s.state = 1) && !inD iss s.peer)) := rfl
  clear hal hX hB
  by_cases h1 : s.state = 1
  · have HR : Hid (strayD iss s = false) := by show _ = _; rw [HV.out]; simp [h1]
    clear HV HX hR
    go_enter Try.func32, Try.ntmps32
    go_wp2
    refine bodyPost_ret (v := .bool false) (by simp [results, Try.results32, go_sem]) rfl ⟨by rw [HR.out], HB.out⟩
  · have HR : Hid (strayD iss s = !inD iss s.peer) := by show _ = _; rw [HV.out]; simp [h1]
    have h1' : (s.state != 1) = true := by simpa using h1
    clear HV
    go_enter Try.func32, Try.ntmps32
    go_wp2_with (refine stop_load (ty := 29) rfl ?_)
    refine ⟨wpList_load_at_w (by rfl) rfl HX.out.at_.peer (by rfl) row29 ?_⟩
    clear x9 hc hlt hl2 HX
    go_wp2_with fail
    refine (contains30 iss s.peer _ oa m c hR.out).mono ?_
    rintro r w1 ⟨rfl, hb⟩
    have HB2 := Lib.hid (below_step HB.out hb); clear hb HB hR
    go_wp2
    refine bodyPost_ret (v := .bool (!inD iss s.peer)) (by simp [results, Try.results32, go_sem, h1]) rfl ⟨by rw [HR.out], HB2.out⟩

theorem eg32 : ∀ args w, (callFunc 32 args).run Try.prog w = .ok (.enter 32 args) w := fun args w => by simp
theorem sess18 (n : Nd) (iss : List En) (w : World) (oa : Option Addr) (m c : Nat) (hn : n.Good w) (h : REn w oa m c iss) :
    Calls Try.prog 18 #[.agg n.cells.toArray, .slice oa m c] w fun r w' => r = .returned (.bool (sessD iss n.sess.l)) ∧ Below w.heap.size w w' := by
  have hal : Below w.heap.size w ((w.alloc (.cells n.cells.toArray 41)).alloc (.cells #[.slice oa m c] 23)) := by (with_reducible try refine Lib.hid ?_); (repeat (with_reducible first | assumption | exact Below.refl _ _ | apply Below.drew | apply Below.drewN' | apply Below.setCell | apply Below.alloc)) <;> (try simp [length_fillTo, length_turnTo]) <;> (try omega)
  have hX : Blk ((w.alloc (.cells n.cells.toArray 41)).alloc (.cells #[.slice oa m c] 23)) w.heap.size n.cells := Blk.alloc (Blk.new' rfl) _
  have hY : Blk ((w.alloc (.cells n.cells.toArray 41)).alloc (.cells #[.slice oa m c] 23)) (w.heap.size + 1) [.slice oa m c] := by
    have := Blk.new' (w := w.alloc (.cells n.cells.toArray 41)) (cs := [.slice oa m c]) (e := 23) rfl
    simpa using this
  have x14 : ((w.alloc (.cells n.cells.toArray 41)).alloc (.cells #[.slice oa m c] 23)).cell? ⟨w.heap.size, 14, none⟩ = some n.sess.val := nd_at hX 14 (by omega)
  have hBx : Box ((w.alloc (.cells n.cells.toArray 41)).alloc (.cells #[.slice oa m c] 23)) (w.heap.size + 1) oa m c iss := ⟨hY.at' 0 (by simp), h.below hal⟩
  have hC := containsFunc31 32 eg32 (w.heap.size + 1) (strayD iss) (fun W => Box W (w.heap.size + 1) oa m c iss) (fun W W' h hb => h.below hb) (fun s W h => stray32 iss _ oa m c s W h) n.sess.l _ n.sess.o n.sess.l.length n.sess.c (hn.sess.below hal).rows hBx
  have hl2 := hX.lt
  have HB := Lib.hid hal
  have HC := Lib.hid hC
  simp only [Sl.val] at x14
  clear hal hX hY hBx hC hn h
  go_enter Try.func18, Try.ntmps18
  go_wp2_with fail
  refine HC.out.mono ?_
  rintro r w1 ⟨rfl, hb⟩
  have HB2 := Lib.hid (below_step HB.out hb); clear hb HB HC x14 hl2
  go_wp2
  refine bodyPost_ret (v := .bool (!n.sess.l.any (strayD iss))) (by simp [results, Try.results18, go_sem]) rfl ⟨rfl, HB2.out⟩

theorem sess_at (iss : List En) (l : List Ses) (k : Nat) (hk : k < l.length) (h : strayD iss l[k] = true) : sessD iss l = false := by unfold sessD; rw [any_at _ _ k hk h]; rfl
theorem sess_all (iss : List En) (l : List Ses) (h : ∀ j (hj : j < l.length), strayD iss l[j] = false) : sessD iss l = true := by unfold sessD; rw [any_none _ _ h]; rfl
theorem refSess19 (n : Nd) (iss : List En) (w : World) (oa : Option Addr) (m c : Nat) (hn : n.Good w) (h : REn w oa m c iss) :
    Calls Try.prog 19 #[.agg n.cells.toArray, .slice oa m c] w fun r w' => r = .returned (.bool (sessD iss n.sess.l)) ∧ Below w.heap.size w w' := by
  have hal : Below w.heap.size w (w.alloc (.cells n.cells.toArray 41)) := (Below.refl _ _).alloc (Nat.le_refl _) _
  have hX : Blk (w.alloc (.cells n.cells.toArray 41)) w.heap.size n.cells := Blk.new' rfl
  have HB := Lib.hid hal; have HX := Lib.hid hX; have H := Lib.hid hn.sess.rows; have HI := Lib.hid h
  obtain ⟨l, hl⟩ : ∃ l, n.sess.l = l := ⟨_, rfl⟩
  obtain ⟨so, hso⟩ : ∃ l, n.sess.o = l := ⟨_, rfl⟩
  obtain ⟨sc, hsc⟩ : ∃ l, n.sess.c = l := ⟨_, rfl⟩
  have HE : Hid (n.sess.val = .slice so l.length sc) := by show _ = _; rw [Sl.val, hl, hso, hsc]
  rw [hl, hso, hsc] at H
  rw [hl]
  clear hal hX hn h hl hso hsc
  go_enter Try.func19, Try.ntmps19
  go_wp2
  go_loopw [5] (fun i wr => ∃ k : Nat, k ≤ l.length ∧ i = .int .i64 k ∧ Hid (∀ j (h : j < l.length), j < k → strayD iss l[j] = false) ∧ Hid (Blk wr w.heap.size n.cells) ∧ Hid (Below w.heap.size w wr)) (fun i _ => l.length - (intOf i).toNat)
  case atStart => exact ⟨0, by omega, rfl, Lib.hid (fun j _ h => by omega), HX, HB⟩
  case round =>
    obtain ⟨k, hk, rfl, hS, hY, hB⟩ := hrel
    have x14 : wr.cell? ⟨w.heap.size, 14, none⟩ = some (.slice so l.length sc) := by rw [← HE.out]; exact nd_at hY.out 14 (by omega)
    have hl2 := hY.out.lt
    by_cases hlt : k < l.length
    · have hi1 : (k : Int) < (l.length : Int) := by omega
      have rk : IntKind.i64.wrap ((k : Int) + 1) = ((k + 1 : Nat) : Int) := by
        have h1 := H.out.le; have h2 := H.out.cap
        simp only [maxLen] at h2
        rw [IntKind.wrap_i64]; omega
      obtain ⟨b1, p1, rfl, hA⟩ := (H.out.rows.below hB.out).ses hlt
      have HV : Hid (strayD iss l[k] = true → sessD iss l = false) := sess_at iss l k hlt
      have HN : Hid (strayD iss l[k] = false → ∀ j (h : j < l.length), j < k + 1 → strayD iss l[j] = false) := by
        intro ht j hj hjk
        by_cases q : j = k
        · subst q; exact ht
        · exact hS.out j hj (by omega)
      obtain ⟨s, hs⟩ : ∃ s, l[k] = s := ⟨_, rfl⟩
      rw [hs] at hA HV HN
      have HA := Lib.hid hA
      have y9 : wr.cell? ⟨b1, p1 + k * 20 + 9, none⟩ = some (.int .i64 s.state) := hA.get 9 (by simp [Ses.cells])
      have hal := hA.lt
      have HD : Hid (strayD iss s = (decide (¬ s.state = 1) && !inD iss s.peer)) := rfl
      clear hs hS hA
      by_cases h1 : s.state = 1
      · have HN2 := Lib.hid (HN.out (by rw [HD.out]; simp [h1]))
        clear HN HV HD
        go_wp2
        go_roundw
        case measure => (simp [intOf]) <;> omega
        case rel => exact ⟨k + 1, by omega, rfl, HN2, hY, hB⟩
      · have HW : Hid (strayD iss s = !inD iss s.peer) := by show _ = _; rw [HD.out]; simp [h1]
        have h1' : (s.state != 1) = true := by simpa using h1
        clear HD
        go_wp2_with (refine stop_load (ty := 29) rfl ?_)
        refine ⟨wpList_load_at_w (by rfl) rfl HA.out.peer (by rfl) row29 ?_⟩
        clear y9 x14 hl2 hal HA
        go_wp2_with fail
        refine (refIn28 iss s.peer _ oa m c (HI.out.below hB.out)).mono ?_
        rintro r w1 ⟨rfl, hb⟩
        have HB2 := Lib.hid (below_step hB.out hb)
        have HY2 := Lib.hid (hY.out.later hb)
        clear hb hB hY
        cases hq : inD iss s.peer
        · have HR := Lib.hid (HV.out (by rw [HW.out, hq]; rfl))
          clear HN HV HW
          go_wp2
          refine bodyPost_ret (v := .bool false) (by simp [results, Try.results19, go_sem]) rfl ⟨by rw [HR.out], HB2.out⟩
        · have HN2 := Lib.hid (HN.out (by rw [HW.out, hq]; rfl))
          clear HN HV HW
          go_wp2
          go_roundw
          case measure => (simp [intOf]) <;> omega
          case rel => exact ⟨k + 1, by omega, rfl, HN2, HY2, HB2⟩
    · obtain rfl : k = l.length := by omega
      have HR := Lib.hid (sess_all iss l (fun j hj => hS.out j hj hj))
      clear hS
      go_wp2
      refine bodyPost_ret (v := .bool true) (by simp [results, Try.results19, go_sem]) rfl ⟨by rw [HR.out], hB.out⟩

theorem same14 (a b : List Pe) (w : World) (o1 o2 : Option Addr) (n1 n2 c1 c2 : Nat) (h1 : RPe w o1 n1 c1 a) (h2 : RPe w o2 n2 c2 b) :
    Calls Try.prog 14 #[.slice o1 n1 c1, .slice o2 n2 c2] w fun r w' => r = .returned (.bool (decide (a = b))) ∧ Below w.heap.size w w' := by
  obtain rfl : n1 = a.length := h1.rows.len
  obtain rfl : n2 = b.length := h2.rows.len
  have H1 := Lib.hid h1; have H2 := Lib.hid h2; clear h1 h2
  by_cases hlen : a.length = b.length
  · have hlen' : ((a.length : Int) != (b.length : Int)) = false := by simp; omega
    have HLEN := Lib.hid hlen
    clear hlen
    go_enter Try.func14, Try.ntmps14
    go_wp2
    clear hlen'
    go_loopw [5] (fun u wr => ∃ i : Nat, i ≤ a.length ∧ u = .int .i64 i ∧ Hid (a.take i = b.take i) ∧ Hid (Below w.heap.size w wr)) (fun u _ => a.length - (intOf u).toNat)
    case atStart => exact ⟨0, by omega, rfl, Lib.hid rfl, by (with_reducible try refine Lib.hid ?_); (repeat (with_reducible first | assumption | exact Below.refl _ _ | apply Below.drew | apply Below.drewN' | apply Below.setCell | apply Below.alloc)) <;> (try simp [length_fillTo, length_turnTo]) <;> (try omega)⟩
    case round =>
      obtain ⟨i, hk, rfl, hS, hbel⟩ := hrel
      by_cases hlt : i < a.length
      · have hlt2 : i < b.length := by have := HLEN.out; omega
        have hi1 : (i : Int) < (a.length : Int) := by omega
        have hi2 : (i : Int) < (b.length : Int) := by omega
        have rk : IntKind.i64.wrap ((i : Int) + 1) = ((i + 1 : Nat) : Int) := by
          have h1 := H1.out.le; have h2 := H1.out.cap
          simp only [maxLen] at h2
          rw [IntKind.wrap_i64]; omega
        obtain ⟨b1, p1, rfl, hA⟩ := H1.out.rows.pe hlt
        obtain ⟨b2, p2, rfl, hD⟩ := H2.out.rows.pe hlt2
        have HN : Hid (a[i] ≠ b[i] → decide (a = b) = false) := fun h => decide_eq_false (list_ne hlt hlt2 h)
        have HT : Hid (a[i] = b[i] → a.take (i + 1) = b.take (i + 1)) := fun h => take_eq hlt hlt2 h hS.out
        obtain ⟨s, hs⟩ : ∃ q, a[i] = q := ⟨_, rfl⟩
        obtain ⟨t, ht⟩ : ∃ q, b[i] = q := ⟨_, rfl⟩
        rw [hs] at hA HN HT; rw [ht] at hD HN HT
        have HA := Lib.hid hA; have HD := Lib.hid hD
        clear hs ht hA hD
        obtain ⟨wA, rfl⟩ : ∃ x, x = wr := ⟨_, rfl⟩
        by_cases hq : s = t
        · have HT3 := Lib.hid (HT.out hq)
          have HEQ := Lib.hid hq
          clear HT HN hq
          go_wp2_with fail
          refine wp_region_plan none [] [] (.take 0 (.take 1 (.take 2 (.take 3 (.take 4 (.take 5 (.take 6 (.take 7 (.take 8 .done))))))))) (by kernel_rfl) (by kernel_rfl) (fun _ _ dd _ _ h => by cases dd <;> exact h) ?_
          intro W0 hW0
          have hbW : Below w.heap.size w W0 := by rw [hW0]; exact hbel.out.drew
          have f0 := HA.out.later (below_step hbel.out (below_drew wA))
          have g0 := HD.out.later (below_step hbel.out (below_drew wA))
          rw [← hW0] at f0 g0
          clear hW0
          (refine pl_take (d := 17) (v := ?_) rfl rfl rfl ?_ ?_; rotate_left; (focus ((intro w' hb0 hw'; go_simp) <;> with_reducible rfl)); simp only [Act.put, List.setIfInBounds_toArray, List.set_cons_zero, List.set_cons_succ])
          (refine pl_take (d := 18) (v := ?_) rfl rfl rfl ?_ ?_; rotate_left; (focus ((intro w' hb0 hw'; go_simp) <;> with_reducible rfl)); simp only [Act.put, List.setIfInBounds_toArray, List.set_cons_zero, List.set_cons_succ])
          (refine pl_take (d := 19) (v := ?_) rfl rfl rfl ?_ ?_; rotate_left; (focus ((intro w' hb0 hw'; go_simp) <;> with_reducible rfl)); simp only [Act.put, List.setIfInBounds_toArray, List.set_cons_zero, List.set_cons_succ])
          refine pl_take (d := 20) (v := .agg s.cells.toArray) rfl rfl rfl ?_ ?_
          · intro w' hb0 hw'
            exact run_load_at rfl (f0.later hw') (by rfl) row50
          simp only [Act.put, List.setIfInBounds_toArray, List.set_cons_zero, List.set_cons_succ]
          (refine pl_take (d := 21) (v := ?_) rfl rfl rfl ?_ ?_; rotate_left; (focus ((intro w' hb0 hw'; go_simp) <;> with_reducible rfl)); simp only [Act.put, List.setIfInBounds_toArray, List.set_cons_zero, List.set_cons_succ])
          (refine pl_take (d := 22) (v := ?_) rfl rfl rfl ?_ ?_; rotate_left; (focus ((intro w' hb0 hw'; go_simp) <;> with_reducible rfl)); simp only [Act.put, List.setIfInBounds_toArray, List.set_cons_zero, List.set_cons_succ])
          (refine pl_take (d := 23) (v := ?_) rfl rfl rfl ?_ ?_; rotate_left; (focus ((intro w' hb0 hw'; go_simp) <;> with_reducible rfl)); simp only [Act.put, List.setIfInBounds_toArray, List.set_cons_zero, List.set_cons_succ])
          refine pl_take (d := 24) (v := .agg t.cells.toArray) rfl rfl rfl ?_ ?_
          · intro w' hb0 hw'
            exact run_load_at rfl (g0.later hw') (by rfl) row50
          simp only [Act.put, List.setIfInBounds_toArray, List.set_cons_zero, List.set_cons_succ]
          refine pl_take (d := 25) (v := .bool false) rfl rfl rfl ?_ ?_
          · intro w' hb0 hw'
            have he := neq50 s t w'
            rw [decide_eq_true HEQ.out, Bool.not_true] at he
            exact run_binOp rfl (by rfl) (by rfl) (guard50 _ _ _ _ _ _) he
          simp only [Act.put, List.setIfInBounds_toArray, List.set_cons_zero, List.set_cons_succ]
          refine pl_end ?_
          go_wp2_with fail
          go_roundw
          case measure => (simp [intOf]) <;> omega
          case rel => exact ⟨i + 1, by omega, rfl, HT3, Lib.hid hbW⟩
        · have HN3 := Lib.hid (HN.out hq)
          have HNE : Hid (¬ s = t) := hq
          clear HN HT hq
          go_wp2_with fail
          refine wp_region_plan none [] [] (.take 0 (.take 1 (.take 2 (.take 3 (.take 4 (.take 5 (.take 6 (.take 7 (.take 8 .done))))))))) (by kernel_rfl) (by kernel_rfl) (fun _ _ dd _ _ h => by cases dd <;> exact h) ?_
          intro W0 hW0
          have hbW : Below w.heap.size w W0 := by rw [hW0]; exact hbel.out.drew
          have f0 := HA.out.later (below_step hbel.out (below_drew wA))
          have g0 := HD.out.later (below_step hbel.out (below_drew wA))
          rw [← hW0] at f0 g0
          clear hW0
          (refine pl_take (d := 17) (v := ?_) rfl rfl rfl ?_ ?_; rotate_left; (focus ((intro w' hb0 hw'; go_simp) <;> with_reducible rfl)); simp only [Act.put, List.setIfInBounds_toArray, List.set_cons_zero, List.set_cons_succ])
          (refine pl_take (d := 18) (v := ?_) rfl rfl rfl ?_ ?_; rotate_left; (focus ((intro w' hb0 hw'; go_simp) <;> with_reducible rfl)); simp only [Act.put, List.setIfInBounds_toArray, List.set_cons_zero, List.set_cons_succ])
          (refine pl_take (d := 19) (v := ?_) rfl rfl rfl ?_ ?_; rotate_left; (focus ((intro w' hb0 hw'; go_simp) <;> with_reducible rfl)); simp only [Act.put, List.setIfInBounds_toArray, List.set_cons_zero, List.set_cons_succ])
          refine pl_take (d := 20) (v := .agg s.cells.toArray) rfl rfl rfl ?_ ?_
          · intro w' hb0 hw'
            exact run_load_at rfl (f0.later hw') (by rfl) row50
          simp only [Act.put, List.setIfInBounds_toArray, List.set_cons_zero, List.set_cons_succ]
          (refine pl_take (d := 21) (v := ?_) rfl rfl rfl ?_ ?_; rotate_left; (focus ((intro w' hb0 hw'; go_simp) <;> with_reducible rfl)); simp only [Act.put, List.setIfInBounds_toArray, List.set_cons_zero, List.set_cons_succ])
          (refine pl_take (d := 22) (v := ?_) rfl rfl rfl ?_ ?_; rotate_left; (focus ((intro w' hb0 hw'; go_simp) <;> with_reducible rfl)); simp only [Act.put, List.setIfInBounds_toArray, List.set_cons_zero, List.set_cons_succ])
          (refine pl_take (d := 23) (v := ?_) rfl rfl rfl ?_ ?_; rotate_left; (focus ((intro w' hb0 hw'; go_simp) <;> with_reducible rfl)); simp only [Act.put, List.setIfInBounds_toArray, List.set_cons_zero, List.set_cons_succ])
          refine pl_take (d := 24) (v := .agg t.cells.toArray) rfl rfl rfl ?_ ?_
          · intro w' hb0 hw'
            exact run_load_at rfl (g0.later hw') (by rfl) row50
          simp only [Act.put, List.setIfInBounds_toArray, List.set_cons_zero, List.set_cons_succ]
          refine pl_take (d := 25) (v := .bool true) rfl rfl rfl ?_ ?_
          · intro w' hb0 hw'
            have he := neq50 s t w'
            rw [decide_eq_false HNE.out, Bool.not_false] at he
            exact run_binOp rfl (by rfl) (by rfl) (guard50 _ _ _ _ _ _) he
          simp only [Act.put, List.setIfInBounds_toArray, List.set_cons_zero, List.set_cons_succ]
          refine pl_end ?_
          go_wp2
          refine bodyPost_ret (v := .bool false) (by simp [results, Try.results14, go_sem]) rfl ⟨by rw [HN3.out], hbW⟩
      · obtain rfl : i = a.length := by omega
        have HT : Hid (decide (a = b) = true) := decide_eq_true (by
          have h := hS.out
          rw [List.take_of_length_le (Nat.le_refl _), List.take_of_length_le (by have := HLEN.out; omega)] at h
          exact h)
        have hb1 := hbel.out
        clear hS hbel
        go_wp2
        refine bodyPost_ret (v := .bool true) (by simp [results, Try.results14, go_sem]) rfl ⟨by rw [HT.out], hb1⟩
  · have hlen' : ¬ (a.length : Int) = (b.length : Int) := by omega
    have HN : Hid (decide (a = b) = false) := decide_eq_false fun e => hlen (by rw [e])
    clear hlen
    go_enter Try.func14, Try.ntmps14
    go_wp2
    refine bodyPost_ret (v := .bool false) (by simp [results, Try.results14, go_sem]) rfl ⟨by rw [HN.out], Below.refl _ _⟩
end Go.Proofs.Ythdkgcmoagookaa
