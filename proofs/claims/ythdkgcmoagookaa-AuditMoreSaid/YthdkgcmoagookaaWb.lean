/-
  Great ones among what a node holds.
-/
import Derived.Test.YthdkgcmoagookaaWa
namespace Go.Proofs.Ythdkgcmoagookaa
open Go.RowKit
set_option maxHeartbeats 1000000
set_option maxRecDepth 20000
set_option linter.unusedVariables false
set_option linter.unusedSimpArgs false

theorem wpList_load_at_w {P : Program} {w : World} {ops : Array Oper} {rest : List Oper} {op : Oper} {a : Act} {Q : Exit → Act → World → Prop} (hw : Region.wanted op (yielded ops a.tmps) = true) {ty : TypeId} {x : Operand} (ho : op.op = .load ty x) {b o : Nat} {cs : List Value} (hB : At w b o cs) (hx : a.eval x = .pointer (some ⟨b, o, none⟩)) (hT : RowTy P ty cs.length)
    (h : wpList P ops Q rest (a.put op.dst (.agg cs.toArray)) w) : wpList P ops Q (op :: rest) a w :=
  Go.BigFrame.wpList_want hw fun _ hK => wp_load_at ho hB hx hT (hK _ _ h)
theorem wpList_load_blk_w {P : Program} {w : World} {ops : Array Oper} {rest : List Oper} {op : Oper} {a : Act} {Q : Exit → Act → World → Prop} (hw : Region.wanted op (yielded ops a.tmps) = true) {ty : TypeId} {x : Operand} (ho : op.op = .load ty x) {b : Nat} {cs : List Value} (hB : Blk w b cs) (hx : a.eval x = .pointer (some ⟨b, 0, none⟩)) (hT : RowTy P ty cs.length)
    (h : wpList P ops Q rest (a.put op.dst (.agg cs.toArray)) w) : wpList P ops Q (op :: rest) a w :=
  Go.BigFrame.wpList_want hw fun _ hK => wp_load_blk ho hB hx hT (hK _ _ h)
def BoolOk (e : Ending) : Prop := ∃ b, e = .returned (.bool b)
theorem great21 (e : En) (w : World) : Calls Try.prog 21 #[.agg e.cells.toArray] w fun r w' => BoolOk r ∧ Below w.heap.size w w' := by
  obtain ⟨name, id, frm, til, idx, tag⟩ := e
  simp only [En.cells]
  by_cases h1 : (1000 : Int) < (name.size : Int)
  · go_enter Try.func21, Try.ntmps21
    go_wp2
    refine bodyPost_ret (v := .bool true) (by simp [results, Try.results21, go_sem]) rfl ⟨⟨true, rfl⟩, by (with_reducible try refine Lib.hid ?_); (repeat (with_reducible first | assumption | exact Below.refl _ _ | apply Below.drew | apply Below.drewN' | apply Below.setCell | apply Below.alloc)) <;> (try simp [length_fillTo, length_turnTo]) <;> (try omega)⟩
  · by_cases h2 : (1000 : Int) < (tag.size : Int)
    · go_enter Try.func21, Try.ntmps21
      go_wp2
      refine bodyPost_ret (v := .bool true) (by simp [results, Try.results21, go_sem]) rfl ⟨⟨true, rfl⟩, by (with_reducible try refine Lib.hid ?_); (repeat (with_reducible first | assumption | exact Below.refl _ _ | apply Below.drew | apply Below.drewN' | apply Below.setCell | apply Below.alloc)) <;> (try simp [length_fillTo, length_turnTo]) <;> (try omega)⟩
    · go_enter Try.func21, Try.ntmps21
      go_wp2
      refine bodyPost_ret (v := .bool false) (by simp [results, Try.results21, go_sem]) rfl ⟨⟨false, rfl⟩, by (with_reducible try refine Lib.hid ?_); (repeat (with_reducible first | assumption | exact Below.refl _ _ | apply Below.drew | apply Below.drewN' | apply Below.setCell | apply Below.alloc)) <;> (try simp [length_fillTo, length_turnTo]) <;> (try omega)⟩

/-- few entries, few items -/
def Mg.small (m : Mg) : Prop := m.c.es.length ≤ 30 ∧ m.c.its.length ≤ 30
def MsgOk (m : Mg) (e : Ending) : Prop := ∃ b, e = .returned (.bool b) ∧ (b = false → m.small)
theorem great36 (m : Mg) (w : World) (hg : m.Good w) : Calls Try.prog 36 #[.agg m.cells.toArray] w fun r w' => MsgOk m r ∧ Below w.heap.size w w' := by
  have hal : Below w.heap.size w (w.alloc (.cells m.cells.toArray 81)) := (Below.refl _ _).alloc (Nat.le_refl _) _
  have hX : Blk (w.alloc (.cells m.cells.toArray 81)) w.heap.size m.cells := Blk.new' rfl
  have HE := Lib.hid (hg.es.below hal); have HI := Lib.hid (hg.its.below hal)
  have HB := Lib.hid hal; have HX := Lib.hid hX
  have x7 : (w.alloc (.cells m.cells.toArray 81)).cell? ⟨w.heap.size, 7, none⟩ = some (.string m.c.key) := mg_at hX 7 (by omega)
  have x8 : (w.alloc (.cells m.cells.toArray 81)).cell? ⟨w.heap.size, 8, none⟩ = some (.string m.c.val) := mg_at hX 8 (by omega)
  have x9 : (w.alloc (.cells m.cells.toArray 81)).cell? ⟨w.heap.size, 9, none⟩ = some (.slice m.eo m.c.es.length m.ec) := mg_at hX 9 (by omega)
  have x10 : (w.alloc (.cells m.cells.toArray 81)).cell? ⟨w.heap.size, 10, none⟩ = some (.slice m.io m.c.its.length m.ic) := mg_at hX 10 (by omega)
  have hl2 := hX.lt
  obtain ⟨eo, he⟩ : ∃ q, m.eo = q := ⟨_, rfl⟩
  obtain ⟨io, hi⟩ : ∃ q, m.io = q := ⟨_, rfl⟩
  rw [he] at HE x9; rw [hi] at HI x10
  have HEO := Lib.hid he; have HIO := Lib.hid hi
  clear hal hX hg he hi
  by_cases h1 : (300 : Int) < (m.c.key.size : Int)
  · go_enter Try.func36, Try.ntmps36
    go_wp2
    refine bodyPost_ret (v := .bool true) (by simp [results, Try.results36, go_sem]) rfl ⟨⟨true, rfl, fun h => by simp at h⟩, HB.out⟩
  by_cases h2 : (300 : Int) < (m.c.val.size : Int)
  · go_enter Try.func36, Try.ntmps36
    go_wp2
    refine bodyPost_ret (v := .bool true) (by simp [results, Try.results36, go_sem]) rfl ⟨⟨true, rfl, fun h => by simp at h⟩, HB.out⟩
  by_cases h3 : (30 : Int) < (m.c.es.length : Int)
  · go_enter Try.func36, Try.ntmps36
    go_wp2
    refine bodyPost_ret (v := .bool true) (by simp [results, Try.results36, go_sem]) rfl ⟨⟨true, rfl, fun h => by simp at h⟩, HB.out⟩
  by_cases h4 : (30 : Int) < (m.c.its.length : Int)
  · go_enter Try.func36, Try.ntmps36
    go_wp2
    refine bodyPost_ret (v := .bool true) (by simp [results, Try.results36, go_sem]) rfl ⟨⟨true, rfl, fun h => by simp at h⟩, HB.out⟩
  have HS : Hid (m.small) := ⟨by omega, by omega⟩
  go_enter Try.func36, Try.ntmps36
  go_wp2
  clear h1 h2 h3 h4 x7 x8 x9 x10 hl2
  go_loopw [3] (fun i wr => ∃ (k : Nat), k ≤ m.c.es.length ∧ i = .int .i64 k ∧ Hid (Below (w.heap.size + 1) (w.alloc (.cells m.cells.toArray 81)) wr)) (fun i _ => m.c.es.length - (intOf i).toNat)
  case atStart => exact ⟨0, by omega, rfl, Lib.hid (Below.refl _ _)⟩
  case round =>
    obtain ⟨k, hk, rfl, hbel⟩ := hrel
    have hbl : Below (w.alloc (.cells m.cells.toArray 81)).heap.size (w.alloc (.cells m.cells.toArray 81)) wr := by simpa using hbel.out
    have hXr := HX.out.later hbl
    have x9 : wr.cell? ⟨w.heap.size, 9, none⟩ = some (.slice eo m.c.es.length m.ec) := by rw [← HEO.out]; exact mg_at hXr 9 (by omega)
    have hl2 := hXr.lt
    by_cases hlt : k < m.c.es.length
    · have hi1 : (k : Int) < (m.c.es.length : Int) := by omega
      have rk : IntKind.i64.wrap ((k : Int) + 1) = ((k + 1 : Nat) : Int) := by
        have h1 := HS.out.1
        rw [IntKind.wrap_i64]; omega
      obtain ⟨b1, p1, rfl, hA⟩ := (HE.out.rows.below hbl).en hlt
      obtain ⟨e, hs⟩ : ∃ e, m.c.es[k] = e := ⟨_, rfl⟩
      rw [hs] at hA
      have HBL := Lib.hid hbl
      have HA := Lib.hid hA
      clear hs hbl hXr hA
      go_wp2_with (refine stop_load (ty := 29) rfl ?_)
      refine ⟨wpList_load_at rfl rfl HA.out (by rfl) row29 ?_⟩
      go_wp2_with fail
      refine (great21 e wr).mono ?_
      rintro r w1 ⟨⟨b, rfl⟩, hb⟩
      have HB1 := Lib.hid (below_step HBL.out hb)
      clear hb hbel HBL x9 HA
      cases b
      · go_wp2
        go_roundw
        case measure => (simp [intOf]) <;> omega
        case rel => exact ⟨k + 1, by omega, rfl, Lib.hid (by simpa using HB1.out)⟩
      · go_wp2
        refine bodyPost_ret (v := .bool true) (by simp [results, Try.results36, go_sem]) rfl ⟨⟨true, rfl, fun h => by simp at h⟩, below_step HB.out (by simpa using HB1.out)⟩
    · obtain rfl : k = m.c.es.length := by omega
      have HB1 := Lib.hid (below_step HB.out hbl)
      have HX1 := Lib.hid hXr
      have HI1 := Lib.hid (HI.out.below hbl)
      clear hbel hbl hXr
      go_wp2
      clear x9 hl2
      obtain ⟨wA, rfl⟩ : ∃ x, x = wr := ⟨_, rfl⟩
      go_loopw [4] (fun i wq => ∃ (k : Nat), k ≤ m.c.its.length ∧ i = .int .i64 k ∧ Hid (Below wA.heap.size wA wq)) (fun i _ => m.c.its.length - (intOf i).toNat)
      case atStart => exact ⟨0, by omega, rfl, Lib.hid (Below.refl _ _)⟩
      case round =>
        obtain ⟨k, hk, rfl, hbel⟩ := hrel
        have hbl := hbel.out
        have hXr := HX1.out.later hbl
        have x10 : wr.cell? ⟨w.heap.size, 10, none⟩ = some (.slice io m.c.its.length m.ic) := by rw [← HIO.out]; exact mg_at hXr 10 (by omega)
        have hl2 := hXr.lt
        by_cases hlt : k < m.c.its.length
        · have hi1 : (k : Int) < (m.c.its.length : Int) := by omega
          have rk : IntKind.i64.wrap ((k : Int) + 1) = ((k + 1 : Nat) : Int) := by
            have h1 := HS.out.2
            rw [IntKind.wrap_i64]; omega
          obtain ⟨b1, p1, rfl, hA⟩ := (HI1.out.rows.below hbl).it hlt
          obtain ⟨e, hs⟩ : ∃ e, m.c.its[k] = e := ⟨_, rfl⟩
          rw [hs] at hA
          have y0 : wr.cell? ⟨b1, p1 + k * 4, none⟩ = some (.string e.key) := hA.get 0 (by simp [It.cells])
          have y1 : wr.cell? ⟨b1, p1 + k * 4 + 1, none⟩ = some (.string e.val) := hA.get 1 (by simp [It.cells])
          have hxl := hA.lt
          clear hs hbl hXr hA
          by_cases h5 : (300 : Int) < (e.key.size : Int)
          · go_wp2
            refine bodyPost_ret (v := .bool true) (by simp [results, Try.results36, go_sem]) rfl ⟨⟨true, rfl, fun h => by simp at h⟩, below_step HB1.out hbel.out⟩
          by_cases h6 : (300 : Int) < (e.val.size : Int)
          · go_wp2
            refine bodyPost_ret (v := .bool true) (by simp [results, Try.results36, go_sem]) rfl ⟨⟨true, rfl, fun h => by simp at h⟩, below_step HB1.out hbel.out⟩
          go_wp2
          go_roundw
          case measure => (simp [intOf]) <;> omega
          case rel => exact ⟨k + 1, by omega, rfl, hbel⟩
        · obtain rfl : k = m.c.its.length := by omega
          clear hbl hXr
          go_wp2
          refine bodyPost_ret (v := .bool false) (by simp [results, Try.results36, go_sem]) rfl ⟨⟨false, rfl, fun _ => HS.out⟩, below_step HB1.out hbel.out⟩

def ListOk (l : List Pd) (e : Ending) : Prop := ∃ b, e = .returned (.bool b) ∧ (b = false → l.length ≤ 50 ∧ ∀ p ∈ l, p.m.small)
theorem great25 (l : List Pd) (w : World) (oa : Option Addr) (n c : Nat) (h : RPd w oa n c l) :
    Calls Try.prog 25 #[.slice oa n c] w fun r w' => ListOk l r ∧ Below w.heap.size w w' := by
  obtain rfl : n = l.length := h.rows.rows.len
  have H := Lib.hid h; clear h
  by_cases hlen : 50 < l.length
  · have hlen' : (50 : Int) < (l.length : Int) := by omega
    clear hlen
    go_enter Try.func25, Try.ntmps25
    go_wp2
    refine bodyPost_ret (v := .bool true) (by simp [results, Try.results25, go_sem]) rfl ⟨⟨true, rfl, fun h => by simp at h⟩, Below.refl _ _⟩
  · have hlen' : ¬ (50 : Int) < (l.length : Int) := by omega
    have HLEN : Hid (l.length ≤ 50) := by show _ ≤ _; omega
    go_enter Try.func25, Try.ntmps25
    go_wp2
    clear hlen hlen'
    go_loopw [3] (fun i wr => ∃ (k : Nat), k ≤ l.length ∧ i = .int .i64 k ∧ Hid (∀ j (h : j < l.length), j < k → l[j].m.small) ∧ Hid (Below w.heap.size w wr)) (fun i _ => l.length - (intOf i).toNat)
    case atStart => exact ⟨0, by omega, rfl, Lib.hid (fun j _ h => by omega), by (with_reducible try refine Lib.hid ?_); (repeat (with_reducible first | assumption | exact Below.refl _ _ | apply Below.drew | apply Below.drewN' | apply Below.setCell | apply Below.alloc)) <;> (try simp [length_fillTo, length_turnTo]) <;> (try omega)⟩
    case round =>
      obtain ⟨k, hk, rfl, hS, hbel⟩ := hrel
      by_cases hlt : k < l.length
      · have hi1 : (k : Int) < (l.length : Int) := by omega
        have rk : IntKind.i64.wrap ((k : Int) + 1) = ((k + 1 : Nat) : Int) := by
          have h1 := HLEN.out
          rw [IntKind.wrap_i64]; omega
        have hR := H.out.below hbel.out
        have HG := Lib.hid (hR.good _ (List.getElem_mem hlt))
        obtain ⟨b1, p1, rfl, hA⟩ := hR.rows.rows.pd hlt
        have HN : Hid (l[k].m.small → ∀ j (h : j < l.length), j < k + 1 → l[j].m.small) := by
          intro ht j hj hjk
          by_cases e : j = k
          · subst e; exact ht
          · exact hS.out j hj (by omega)
        obtain ⟨s, hs⟩ : ∃ s, l[k] = s := ⟨_, rfl⟩
        rw [hs] at hA HG HN
        have HA := Lib.hid hA
        clear hs hR hA hS
        go_wp2_with (refine stop_load (ty := 29) rfl ?_)
        refine ⟨wpList_load_at rfl rfl HA.out.to (by rfl) row29 ?_⟩
        go_wp2_with fail
        refine (great21 s.to wr).mono ?_
        rintro r w1 ⟨⟨b, rfl⟩, hb⟩
        replace HA := Lib.hid (HA.out.later hb); replace HG := Lib.hid (HG.out.below hb)
        have HB := Lib.hid (below_step hbel.out hb); clear hb hbel
        cases b
        · go_wp2_with (refine stop_load (ty := 81) rfl ?_)
          refine ⟨wpList_load_at_w (by rfl) rfl HA.out.mg (by rfl) row81 ?_⟩
          go_wp2_with fail
          refine (great36 s.m w1 HG.out).mono ?_
          rintro r w2 ⟨⟨b, rfl, hsm⟩, hb⟩
          have HB2 := Lib.hid (below_step HB.out hb)
          have HSM := Lib.hid hsm
          clear hb HB hsm
          cases b
          · have HN2 := Lib.hid (HN.out (HSM.out rfl))
            clear HN HSM HA HG
            go_wp2
            go_roundw
            case measure => (simp [intOf]) <;> omega
            case rel => exact ⟨k + 1, by omega, rfl, HN2, HB2⟩
          · clear HN HSM HA HG
            go_wp2
            refine bodyPost_ret (v := .bool true) (by simp [results, Try.results25, go_sem]) rfl ⟨⟨true, rfl, fun h => by simp at h⟩, HB2.out⟩
        · go_wp2
          refine bodyPost_ret (v := .bool true) (by simp [results, Try.results25, go_sem]) rfl ⟨⟨true, rfl, fun h => by simp at h⟩, HB.out⟩
      · obtain rfl : k = l.length := by omega
        have HSA : Hid (∀ p ∈ l, p.m.small) := fun p hp => by
          obtain ⟨j, hj, rfl⟩ := List.getElem_of_mem hp
          exact hS.out j hj hj
        clear hS
        go_wp2
        refine bodyPost_ret (v := .bool false) (by simp [results, Try.results25, go_sem]) rfl ⟨⟨false, rfl, fun _ => ⟨HLEN.out, HSA.out⟩⟩, hbel.out⟩
theorem great35 (s : Ses) (w : World) : Calls Try.prog 35 #[.agg s.cells.toArray] w fun r w' => BoolOk r ∧ Below w.heap.size w w' := by
  obtain ⟨id, nonce, ⟨pn, pi, pf, pt, px, pg⟩, role, state, send, hear, epoch, count, since, seq, top, low, high, used⟩ := s
  simp only [Ses.cells]
  by_cases h1 : (300 : Int) < (send.size : Int)
  · go_enter Try.func35, Try.ntmps35
    go_wp2
    refine bodyPost_ret (v := .bool true) (by simp [results, Try.results35, go_sem]) rfl ⟨⟨true, rfl⟩, by (with_reducible try refine Lib.hid ?_); (repeat (with_reducible first | assumption | exact Below.refl _ _ | apply Below.drew | apply Below.drewN' | apply Below.setCell | apply Below.alloc)) <;> (try simp [length_fillTo, length_turnTo]) <;> (try omega)⟩
  · by_cases h2 : (300 : Int) < (hear.size : Int)
    · go_enter Try.func35, Try.ntmps35
      go_wp2
      refine bodyPost_ret (v := .bool true) (by simp [results, Try.results35, go_sem]) rfl ⟨⟨true, rfl⟩, by (with_reducible try refine Lib.hid ?_); (repeat (with_reducible first | assumption | exact Below.refl _ _ | apply Below.drew | apply Below.drewN' | apply Below.setCell | apply Below.alloc)) <;> (try simp [length_fillTo, length_turnTo]) <;> (try omega)⟩
    · have hal : Below w.heap.size w (w.alloc (.cells (Ses.cells ⟨id, nonce, ⟨pn, pi, pf, pt, px, pg⟩, role, state, send, hear, epoch, count, since, seq, top, low, high, used⟩).toArray 77)) := (Below.refl _ _).alloc (Nat.le_refl _) _
      have HAL := Lib.hid hal; clear hal
      go_enter Try.func35, Try.ntmps35
      go_wp2_with fail
      refine (great21 ⟨pn, pi, pf, pt, px, pg⟩ _).mono ?_
      rintro r w1 ⟨⟨b, rfl⟩, hb⟩
      have HB := Lib.hid (below_step HAL.out hb); clear hb HAL
      go_wp2
      refine bodyPost_ret (v := .bool b) (by simp [results, Try.results35, go_sem]) rfl ⟨⟨b, rfl⟩, HB.out⟩
def GreatOk (n : Nat) (e : Ending) : Prop := ∃ b, e = .returned (.bool b) ∧ (b = false → n ≤ 60)
theorem great24 (l : List Ses) (w : World) (oa : Option Addr) (n c : Nat) (h : RSes w oa n c l) :
    Calls Try.prog 24 #[.slice oa n c] w fun r w' => GreatOk l.length r ∧ Below w.heap.size w w' := by
  obtain rfl : n = l.length := h.rows.len
  have H := Lib.hid h; clear h
  by_cases hlen : 60 < l.length
  · have hlen' : (60 : Int) < (l.length : Int) := by omega
    clear hlen
    go_enter Try.func24, Try.ntmps24
    go_wp2
    refine bodyPost_ret (v := .bool true) (by simp [results, Try.results24, go_sem]) rfl ⟨⟨true, rfl, fun h => by simp at h⟩, Below.refl _ _⟩
  · have hlen' : ¬ (60 : Int) < (l.length : Int) := by omega
    have HLEN : Hid (l.length ≤ 60) := by show _ ≤ _; omega
    go_enter Try.func24, Try.ntmps24
    go_wp2
    clear hlen hlen'
    go_loopw [3] (fun i wr => ∃ (k : Nat), k ≤ l.length ∧ i = .int .i64 k ∧ Hid (Below w.heap.size w wr)) (fun i _ => l.length - (intOf i).toNat)
    case atStart => exact ⟨0, by omega, rfl, by (with_reducible try refine Lib.hid ?_); (repeat (with_reducible first | assumption | exact Below.refl _ _ | apply Below.drew | apply Below.drewN' | apply Below.setCell | apply Below.alloc)) <;> (try simp [length_fillTo, length_turnTo]) <;> (try omega)⟩
    case round =>
      obtain ⟨k, hk, rfl, hbel⟩ := hrel
      by_cases hlt : k < l.length
      · have hi1 : (k : Int) < (l.length : Int) := by omega
        have rk : IntKind.i64.wrap ((k : Int) + 1) = ((k + 1 : Nat) : Int) := by
          have h1 := HLEN.out
          rw [IntKind.wrap_i64]; omega
        obtain ⟨b1, p1, rfl, hA⟩ := (H.out.rows.below hbel.out).ses hlt
        obtain ⟨s, hs⟩ : ∃ s, l[k] = s := ⟨_, rfl⟩
        rw [hs] at hA
        clear hs
        go_wp2_with (refine stop_load (ty := 77) rfl ?_)
        refine ⟨wpList_load_at rfl rfl hA (by rfl) row77 ?_⟩
        clear hA
        go_wp2_with fail
        refine (great35 s wr).mono ?_
        rintro r w1 ⟨⟨b, rfl⟩, hb⟩
        have HB := Lib.hid (below_step hbel.out hb); clear hb hbel
        cases b
        · go_wp2
          go_roundw
          case measure => (simp [intOf]) <;> omega
          case rel => exact ⟨k + 1, by omega, rfl, HB⟩
        · go_wp2
          refine bodyPost_ret (v := .bool true) (by simp [results, Try.results24, go_sem]) rfl ⟨⟨true, rfl, fun h => by simp at h⟩, HB.out⟩
      · obtain rfl : k = l.length := by omega
        go_wp2
        refine bodyPost_ret (v := .bool false) (by simp [results, Try.results24, go_sem]) rfl ⟨⟨false, rfl, fun _ => HLEN.out⟩, hbel.out⟩

end Go.Proofs.Ythdkgcmoagookaa
