/-
  Walks: whether a session is there; numbers in a list; which session may go.
-/
import Derived.Test.YtmfglppgpjplfaaWb
namespace Go.Proofs.Ytmfglppgpjplfaa
open Go.RowKit
set_option maxHeartbeats 2000000
set_option maxRecDepth 20000
set_option linter.unusedVariables false
set_option linter.unusedSimpArgs false

def twiceD (s x : Ses) : Bool := decide (s.state = 2) && (decide (x.role = 2) && (decide (x.nonce = s.nonce) && whoD x.peer s.peer))
theorem twice45 (s : Ses) (B : Nat) (x : Ses) (w : World) (hB : Blk w B s.cells) :
    Calls Try.prog 45 #[.agg x.cells.toArray, .pointer (some ⟨B, 0, none⟩)] w fun r w' => r = .returned (.bool (twiceD s x)) ∧ Below w.heap.size w w' := by
  have hal : Below w.heap.size w (w.alloc (.cells x.cells.toArray 30)) := (Below.refl _ _).alloc (Nat.le_refl _) _
  have hY := hB.later hal
  have hX : Blk (w.alloc (.cells x.cells.toArray 30)) w.heap.size x.cells := Blk.new' rfl
  have HB := Lib.hid hal
  have HV : Hid (twiceD s x = (decide (s.state = 2) && (decide (x.role = 2) && (decide (x.nonce = s.nonce) && whoD x.peer s.peer)))) := rfl
  have hlt := hB.lt
  have y9 : (w.alloc (.cells x.cells.toArray 30)).cell? ⟨B, 9, none⟩ = some (.int .i64 s.state) := ses_at hY 9 (by omega)
  have y1 : (w.alloc (.cells x.cells.toArray 30)).cell? ⟨B, 1, none⟩ = some (.int .u64 s.nonce) := ses_at hY 1 (by omega)
  have x8 : (w.alloc (.cells x.cells.toArray 30)).cell? ⟨w.heap.size, 8, none⟩ = some (.int .i64 x.role) := ses_at hX 8 (by omega)
  have x1 : (w.alloc (.cells x.cells.toArray 30)).cell? ⟨w.heap.size, 1, none⟩ = some (.int .u64 x.nonce) := ses_at hX 1 (by omega)
  have hl2 := hX.lt
  by_cases h1 : s.state = 2
  · by_cases h2 : x.role = 2
    · by_cases h3 : x.nonce = s.nonce
      · have h3' : (x.nonce : Int) = (s.nonce : Int) := by omega
        have HR : Hid (twiceD s x = whoD x.peer s.peer) := by show _ = _; rw [HV.out]; simp [h1, h2, h3]
        have x2 : (w.alloc (.cells x.cells.toArray 30)).cell? ⟨w.heap.size, 2, none⟩ = some (.string x.peer.name) := ses_at hX 2 (by omega)
        have x3 : (w.alloc (.cells x.cells.toArray 30)).cell? ⟨w.heap.size, 3, none⟩ = some (.int .u64 x.peer.id) := ses_at hX 3 (by omega)
        have x4 : (w.alloc (.cells x.cells.toArray 30)).cell? ⟨w.heap.size, 4, none⟩ = some (.int .i64 x.peer.frm) := ses_at hX 4 (by omega)
        have x5 : (w.alloc (.cells x.cells.toArray 30)).cell? ⟨w.heap.size, 5, none⟩ = some (.int .i64 x.peer.til) := ses_at hX 5 (by omega)
        have x6 : (w.alloc (.cells x.cells.toArray 30)).cell? ⟨w.heap.size, 6, none⟩ = some (.int .i64 x.peer.idx) := ses_at hX 6 (by omega)
        have x7 : (w.alloc (.cells x.cells.toArray 30)).cell? ⟨w.heap.size, 7, none⟩ = some (.string x.peer.tag) := ses_at hX 7 (by omega)
        have y2 : (w.alloc (.cells x.cells.toArray 30)).cell? ⟨B, 2, none⟩ = some (.string s.peer.name) := ses_at hY 2 (by omega)
        have y3 : (w.alloc (.cells x.cells.toArray 30)).cell? ⟨B, 3, none⟩ = some (.int .u64 s.peer.id) := ses_at hY 3 (by omega)
        have y4 : (w.alloc (.cells x.cells.toArray 30)).cell? ⟨B, 4, none⟩ = some (.int .i64 s.peer.frm) := ses_at hY 4 (by omega)
        have y5 : (w.alloc (.cells x.cells.toArray 30)).cell? ⟨B, 5, none⟩ = some (.int .i64 s.peer.til) := ses_at hY 5 (by omega)
        have y6 : (w.alloc (.cells x.cells.toArray 30)).cell? ⟨B, 6, none⟩ = some (.int .i64 s.peer.idx) := ses_at hY 6 (by omega)
        have y7 : (w.alloc (.cells x.cells.toArray 30)).cell? ⟨B, 7, none⟩ = some (.string s.peer.tag) := ses_at hY 7 (by omega)
        have HW := who38 x.peer s.peer
        simp only [En.cells] at HW
        clear HV h3 hal hY hX hB
        go_enter Try.func45, Try.ntmps45
        go_wp2_with fail
        refine (HW _).mono ?_
        rintro r w1 ⟨rfl, hb⟩
        have HB2 := Lib.hid (below_step HB.out hb)
        clear hb HB x1 x2 x3 x4 x5 x6 x7 x8 y1 y2 y3 y4 y5 y6 y7 y9 HW
        go_wp2
        refine bodyPost_ret (v := .bool (whoD x.peer s.peer)) (by simp [results, Try.results45, go_sem]) rfl ⟨by rw [HR.out], HB2.out⟩
      · have h3' : ¬ (x.nonce : Int) = (s.nonce : Int) := by omega
        have HR : Hid (twiceD s x = false) := by show _ = _; rw [HV.out]; simp [h3]
        clear HV h3 hal hY hX hB
        go_enter Try.func45, Try.ntmps45
        go_wp2
        refine bodyPost_ret (v := .bool false) (by simp [results, Try.results45, go_sem, h1, h2, h3']) rfl ⟨by rw [HR.out], HB.out⟩
    · have HR : Hid (twiceD s x = false) := by show _ = _; rw [HV.out]; simp [h2]
      clear HV hal hY hX hB
      go_enter Try.func45, Try.ntmps45
      go_wp2
      refine bodyPost_ret (v := .bool false) (by simp [results, Try.results45, go_sem, h1, h2]) rfl ⟨by rw [HR.out], HB.out⟩
  · have HR : Hid (twiceD s x = false) := by show _ = _; rw [HV.out]; simp [h1]
    clear HV hal hY hX hB
    go_enter Try.func45, Try.ntmps45
    go_wp2
    refine bodyPost_ret (v := .bool false) (by simp [results, Try.results45, go_sem, h1]) rfl ⟨by rw [HR.out], HB.out⟩

def againD (l : List Ses) (s : Ses) : Bool := if s.state = 1 then l.any (waitsD s.nonce) else l.any (byId s.id) || l.any (twiceD s)
theorem eg45 : ∀ args w, (callFunc 45 args).run Try.prog w = .ok (.enter 45 args) w := fun args w => by simp
theorem again29 (l : List Ses) (s : Ses) (w : World) (oa : Option Addr) (m c : Nat) (h : RSes w oa m c l) :
    Calls Try.prog 29 #[.slice oa m c, .agg s.cells.toArray] w fun r w' => r = .returned (.bool (againD l s)) ∧ Below w.heap.size w w' := by
  have hal : Below w.heap.size w (w.alloc (.cells s.cells.toArray 30)) := (Below.refl _ _).alloc (Nat.le_refl _) _
  have hX : Blk (w.alloc (.cells s.cells.toArray 30)) w.heap.size s.cells := Blk.new' rfl
  have HB := Lib.hid hal; have HX := Lib.hid hX; have H := Lib.hid (h.below hal)
  have x9 : (w.alloc (.cells s.cells.toArray 30)).cell? ⟨w.heap.size, 9, none⟩ = some (.int .i64 s.state) := ses_at hX 9 (by omega)
  have x0 : (w.alloc (.cells s.cells.toArray 30)).cell? ⟨w.heap.size, 0, none⟩ = some (.int .u64 s.id) := ses_at hX 0 (by omega)
  have x1 : (w.alloc (.cells s.cells.toArray 30)).cell? ⟨w.heap.size, 1, none⟩ = some (.int .u64 s.nonce) := ses_at hX 1 (by omega)
  have hl2 := hX.lt
  have HV : Hid (againD l s = if s.state = 1 then l.any (waitsD s.nonce) else l.any (byId s.id) || l.any (twiceD s)) := rfl
  clear hal hX h
  by_cases h1 : s.state = 1
  · rw [if_pos h1] at HV
    go_enter Try.func29, Try.ntmps29
    go_wp2_with fail
    refine (waits16 l s.nonce _ oa m c H.out).mono ?_
    rintro r w1 ⟨rfl, hb⟩
    have HB2 := Lib.hid (below_step HB.out hb)
    have HG := Lib.hid (idxD_ge (waitsD s.nonce) l)
    clear hb HB H HX x9 x0 x1 hl2
    go_wp2
    refine bodyPost_ret (v := .bool (decide (0 ≤ idxD (waitsD s.nonce) l))) (by simp [results, Try.results29, go_sem]) rfl ⟨by rw [HG.out, HV.out], HB2.out⟩
  · rw [if_neg h1] at HV
    go_enter Try.func29, Try.ntmps29
    go_wp2_with fail
    refine (byId14 l s.id _ oa m c H.out).mono ?_
    rintro r w1 ⟨rfl, hb⟩
    have HB2 := Lib.hid (below_step HB.out hb)
    have HG := Lib.hid (idxD_ge (byId s.id) l)
    have HX2 := Lib.hid (HX.out.later hb)
    have H2 := Lib.hid (H.out.below hb)
    clear hb HB H HX x9 x0 x1 hl2
    cases hq : l.any (byId s.id)
    · rw [hq] at HV HG
      have hq2 : ¬ 0 ≤ idxD (byId s.id) l := of_decide_eq_false HG.out
      rw [Bool.false_or] at HV
      have HC := containsFunc46 45 eg45 w.heap.size (twiceD s) (fun W => Blk W w.heap.size s.cells) (fun W W' h hb => h.later hb) (fun x W h => twice45 s _ x W h) l w1 oa m c H2.out HX2.out
      clear hq
      go_wp2_with fail
      refine HC.mono ?_
      rintro r w2 ⟨rfl, hb⟩
      have HB3 := Lib.hid (below_step HB2.out hb)
      clear hb HB2 HC
      go_wp2
      refine bodyPost_ret (v := .bool (l.any (twiceD s))) (by simp [results, Try.results29, go_sem, hq2] <;> (intro h; omega)) rfl ⟨by rw [HV.out], HB3.out⟩
    · rw [hq] at HV HG
      have hq2 : 0 ≤ idxD (byId s.id) l := of_decide_eq_true HG.out
      rw [Bool.true_or] at HV
      clear hq
      go_wp2
      refine bodyPost_ret (v := .bool true) (by simp [results, Try.results29, go_sem, hq2]) rfl ⟨by rw [HV.out], HB2.out⟩

def u64c (n : Nat) : List Value := [.int .u64 n]
abbrev RU := Rws u64c
theorem RowsOf.u64 {w : World} {oa : Option Addr} {n : Nat} {l : List Nat} (h : RowsOf u64c w oa n l) {i : Nat} (hi : i < l.length) :
    ∃ b o, oa = some ⟨b, o, none⟩ ∧ b < w.heap.size ∧ w.cell? ⟨b, o + i, none⟩ = some (.int .u64 l[i]) := by
  obtain ⟨b, o, e, hlt, hc⟩ := h.elem (k := 1) (fun _ => rfl) (by omega) hi
  have := hc 0 (by omega)
  rw [Nat.mul_one] at this
  exact ⟨b, o, e, hlt, this⟩
theorem index50 (l : List Nat) (x : Nat) (w : World) (oa : Option Addr) (n c : Nat) (h : RU w oa n c l) :
    Calls Try.prog 50 #[.slice oa n c, .int .u64 x] w fun r w' => (∃ i : Int, r = .returned (.int .i64 i) ∧ (decide (0 ≤ i) = decide (x ∈ l))) ∧ Below w.heap.size w w' := by
  obtain rfl : n = l.length := h.rows.len
  have H := Lib.hid h; clear h
  go_enter Try.func50, Try.ntmps50
  go_wp2
  go_loopw [5, 8] (fun _ i wr => ∃ k : Nat, k ≤ l.length ∧ i = .int .i64 k ∧ Hid (∀ j (h : j < l.length), j < k → l[j] ≠ x) ∧ Hid (Below w.heap.size w wr)) (fun _ i _ => l.length - (intOf i).toNat)
  case atStart => exact ⟨0, by omega, rfl, Lib.hid (fun j _ h => by omega), by (with_reducible try refine Lib.hid ?_); (repeat (with_reducible first | assumption | exact Below.refl _ _ | apply Below.drew | apply Below.drewN' | apply Below.setCell | apply Below.alloc)) <;> (try simp [length_fillTo, length_turnTo]) <;> (try omega)⟩
  case round =>
    obtain ⟨k, hk, rfl, hS, hbel⟩ := hrel
    by_cases hlt : k < l.length
    · have hi1 : (k : Int) < (l.length : Int) := by omega
      have rk : IntKind.i64.wrap ((k : Int) + 1) = ((k + 1 : Nat) : Int) := by
        have h1 := H.out.le; have h2 := H.out.cap
        simp only [maxLen] at h2
        rw [IntKind.wrap_i64]; omega
      obtain ⟨b1, p1, rfl, hb1, e0⟩ := (H.out.rows.below hbel.out).u64 hlt
      have HM : Hid (l[k] ∈ l) := List.getElem_mem hlt
      have HS2 : Hid (l[k] ≠ x → ∀ j (h : j < l.length), j < k + 1 → l[j] ≠ x) := by
        intro ht j hj hjk
        by_cases e : j = k
        · subst e; exact ht
        · exact hS.out j hj (by omega)
      obtain ⟨t, ht'⟩ : ∃ t, l[k] = t := ⟨_, rfl⟩
      rw [ht'] at e0 HM HS2
      clear ht'
      by_cases ht : t = x
      · subst ht
        clear hS HS2
        go_wp2
        refine bodyPost_ret (v := .int .i64 (k : Int)) (by simp [results, Try.results50, go_sem]) rfl ⟨⟨_, rfl, by rw [decide_eq_true HM.out]; exact decide_eq_true (by omega)⟩, hbel.out⟩
      · have hne : ¬ (x : Int) = (t : Int) := by omega
        have HS3 := Lib.hid (HS2.out ht)
        clear hS HS2
        go_wp2
        go_roundw
        case measure => (simp [intOf]) <;> omega
        case rel => exact ⟨k + 1, by omega, rfl, HS3, hbel⟩
    · obtain rfl : k = l.length := by omega
      have HF : Hid (x ∉ l) := fun hx => by
        obtain ⟨j, hj, e⟩ := List.getElem_of_mem hx
        exact hS.out j hj hj e
      have hb1 := hbel.out
      clear hS
      go_wp2
      refine bodyPost_ret (v := .int .i64 (-1)) (by simp [results, Try.results50, go_sem]) rfl ⟨⟨_, rfl, by rw [decide_eq_false HF.out]; rfl⟩, hb1⟩
theorem contains48 (l : List Nat) (x : Nat) (w : World) (oa : Option Addr) (n c : Nat) (h : RU w oa n c l) :
    Calls Try.prog 48 #[.slice oa n c, .int .u64 x] w fun r w' => r = .returned (.bool (decide (x ∈ l))) ∧ Below w.heap.size w w' := by
  go_enter Try.func48, Try.ntmps48
  go_wp2_with fail
  refine (index50 l x w oa n c h).mono ?_
  rintro r w1 ⟨⟨i, rfl, hi⟩, hb⟩
  have HI := Lib.hid hi; have HB := Lib.hid hb; clear hi hb
  go_wp2
  refine bodyPost_ret (v := .bool (decide (0 ≤ i))) (by simp [results, Try.results48, go_sem]) rfl ⟨by rw [HI.out], HB.out⟩

def mayD (busy : List Nat) (s : Ses) : Bool := decide (s.state ≠ 1) && !decide (s.id ∈ busy)
theorem may47 (busy : List Nat) (ob : Option Addr) (nb cb : Nat) (B : Nat) (s : Ses) (w : World) (hc : w.cell? ⟨B, 0, none⟩ = some (.slice ob nb cb)) (h : RU w ob nb cb busy) :
    Calls Try.prog 47 #[.agg s.cells.toArray, .pointer (some ⟨B, 0, none⟩)] w fun r w' => r = .returned (.bool (mayD busy s)) ∧ Below w.heap.size w w' := by
  have hlt := World.block_lt_of_cell? w ⟨B, 0, none⟩ hc
  have hal : Below w.heap.size w (w.alloc (.cells s.cells.toArray 30)) := (Below.refl _ _).alloc (Nat.le_refl _) _
  have hc2 := cell_later hc hal
  have hX : Blk (w.alloc (.cells s.cells.toArray 30)) w.heap.size s.cells := Blk.new' rfl
  have x9 : (w.alloc (.cells s.cells.toArray 30)).cell? ⟨w.heap.size, 9, none⟩ = some (.int .i64 s.state) := ses_at hX 9 (by omega)
  have x0 : (w.alloc (.cells s.cells.toArray 30)).cell? ⟨w.heap.size, 0, none⟩ = some (.int .u64 s.id) := ses_at hX 0 (by omega)
  have hl2 := hX.lt
  have HB := Lib.hid hal
  have H := Lib.hid (h.below hal)
  have HV : Hid (mayD busy s = (decide (s.state ≠ 1) && !decide (s.id ∈ busy))) := rfl
  clear hal hX hc h
  by_cases h1 : s.state = 1
  · have HR : Hid (mayD busy s = false) := by show _ = _; rw [HV.out]; simp [h1]
    clear HV
    go_enter Try.func47, Try.ntmps47
    go_wp2
    refine bodyPost_ret (v := .bool false) (by simp [results, Try.results47, go_sem, h1]) rfl ⟨by rw [HR.out], HB.out⟩
  · have HR : Hid (mayD busy s = !decide (s.id ∈ busy)) := by show _ = _; rw [HV.out]; simp [h1]
    clear HV
    go_enter Try.func47, Try.ntmps47
    go_wp2_with fail
    refine (contains48 busy s.id _ ob nb cb H.out).mono ?_
    rintro r w1 ⟨rfl, hb⟩
    have HB2 := Lib.hid (below_step HB.out hb)
    obtain ⟨q, hq⟩ : ∃ q, decide (s.id ∈ busy) = q := ⟨_, rfl⟩
    rw [hq] at HR ⊢
    clear hb HB H x9 x0 hq hc2 hl2
    go_wp2
    refine bodyPost_ret (v := .bool (!q)) (by simp [results, Try.results47, go_sem, h1]) rfl ⟨by rw [HR.out], HB2.out⟩
end Go.Proofs.Ytmfglppgpjplfaa
