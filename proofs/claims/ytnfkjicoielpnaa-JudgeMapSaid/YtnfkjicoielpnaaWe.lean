/-
  Walks: what is known behind results; the results of a key; keys in a list.
-/
import Derived.Test.YtnfkjicoielpnaaWb
namespace Go.Proofs.Ytnfkjicoielpnaa
open Go.RowKit
set_option maxHeartbeats 1000000
set_option maxRecDepth 20000
set_option linter.unusedVariables false
set_option linter.unusedSimpArgs false

def known (l : List Res) : St := l.foldl after st0
def ofKey (l : List Res) (k : ByteArray) : List Res := l.filter fun r => decide (r.key = k)
abbrev RRes := Rws Res.cells

theorem known20 (l : List Res) (w : World) (oa : Option Addr) (n c : Nat) (h : RRes w oa n c l) :
    Calls Try.prog 20 #[.slice oa n c] w fun r w' => r = .returned (.agg (known l).cells.toArray) ∧ Below w.heap.size w w' := by
  obtain rfl : n = l.length := h.rows.len
  have H := Lib.hid h; clear h
  have hbb : Below w.heap.size w ((w.alloc (.cells #[.string ⟨#[]⟩, .int .i64 0, .bool false, .bool false] 33)).alloc (.cells #[.string ⟨#[]⟩, .int .i64 0, .bool false, .bool false] 33)) := by (with_reducible try refine Lib.hid ?_); (repeat (with_reducible first | assumption | exact Below.refl _ _ | apply Below.drew | apply Below.drewN' | apply Below.setCell | apply Below.alloc)) <;> (try simp [length_fillTo, length_turnTo]) <;> (try omega)
  have hX : Blk ((w.alloc (.cells #[.string ⟨#[]⟩, .int .i64 0, .bool false, .bool false] 33)).alloc (.cells #[.string ⟨#[]⟩, .int .i64 0, .bool false, .bool false] 33)) w.heap.size st0.cells := Blk.alloc (Blk.new' rfl) _
  have hY : Blk ((w.alloc (.cells #[.string ⟨#[]⟩, .int .i64 0, .bool false, .bool false] 33)).alloc (.cells #[.string ⟨#[]⟩, .int .i64 0, .bool false, .bool false] 33)) (w.heap.size + 1) st0.cells := Blk.new' (by simp)
  have HBB := Lib.hid hbb; have HX := Lib.hid hX; have HY := Lib.hid hY; clear hbb hX hY
  go_enter Try.func20, Try.ntmps20
  go_wp2
  go_loopw [5, 8] (fun _ i wr => ∃ k : Nat, k ≤ l.length ∧ i = .int .i64 k ∧ Hid (Blk wr w.heap.size st0.cells) ∧ Hid (Blk wr (w.heap.size + 1) (known (l.take k)).cells) ∧ Hid (Below w.heap.size w wr)) (fun _ i _ => l.length - (intOf i).toNat)
  case atStart => exact ⟨0, by omega, rfl, HX, HY, HBB⟩
  case round =>
    obtain ⟨k, hk, rfl, hX, hY, hbel⟩ := hrel
    by_cases hlt : k < l.length
    · have hi1 : (k : Int) < (l.length : Int) := by omega
      have rk : IntKind.i64.wrap ((k : Int) + 1) = ((k + 1 : Nat) : Int) := by
        have h1 := H.out.le; have h2 := H.out.cap
        simp only [maxLen] at h2
        rw [IntKind.wrap_i64]; omega
      have HT : Hid (known (l.take (k + 1)) = after (known (l.take k)) l[k]) := by
        show _ = _
        unfold known; rw [List.take_succ_eq_append_getElem hlt, List.foldl_append]; rfl
      obtain ⟨b1, p1, rfl, hb1, e0, e1, e2, e3, e4, e5, e6, e7⟩ := (H.out.rows.below hbel.out).res hlt
      obtain ⟨q1, hq1'⟩ : ∃ q, l[k] = q := ⟨_, rfl⟩
      rw [hq1'] at e0 e1 e2 e3 e4 e5 e6 e7 HT
      clear hq1'
      obtain ⟨job, kind, ver, key, val, has, gone, err⟩ := q1
      simp only at e0 e1 e2 e3 e4 e5 e6 e7
      obtain ⟨s, hs⟩ : ∃ s, known (l.take k) = s := ⟨_, rfl⟩
      rw [hs] at hY HT
      clear hs
      have y0 := hY.out.at' 0 (by simp [St.cells]); have y1 := hY.out.at' 1 (by simp [St.cells]); have y2 := hY.out.at' 2 (by simp [St.cells]); have y3 := hY.out.at' 3 (by simp [St.cells])
      have hly := hY.out.lt
      simp only [St.cells, List.getElem_cons_zero, List.getElem_cons_succ] at y0 y1 y2 y3
      have hal : Below wr.heap.size wr (wr.alloc (.cells (Res.cells ⟨job, kind, ver, key, val, has, gone, err⟩).toArray 36)) := (Below.refl _ _).alloc (Nat.le_refl _) _
      have HAL := Lib.hid hal; clear hal
      go_wp2_with (first | fail)
      refine (after19 s ⟨job, kind, ver, key, val, has, gone, err⟩ _).mono ?_
      rintro r w1 ⟨rfl, hb2⟩
      have hb3 := below_step HAL.out hb2
      have hX3 := hX.out.later hb3
      have hY3 := hY.out.later hb3
      have hbel3 := below_step hbel.out hb3
      have HX3 := Lib.hid hX3; have HY3 := Lib.hid hY3; have HB3 := Lib.hid hbel3
      clear hX3 hY3 hbel3 hb3 hb2 HAL y0 y1 y2 y3 hX hY hbel e0 e1 e2 e3 e4 e5 e6 e7
      go_wp2_with (refine stop_store (ty := 33) rfl ?_)
      refine ⟨wpList_store_blk rfl rfl HY3.out (by rfl) (vs := (after s ⟨job, kind, ver, key, val, has, gone, err⟩).cells) (by rfl) row33 rfl (by simp [St.cells, Value.oneCell']) ?_⟩
      intro W5 hY5 hg5
      have hX5 := HX3.out.grown hg5 (by simp)
      have hb5 := Below.grownB HB3.out hg5 (by omega) HB3.out.size
      have HY5 := Lib.hid hY5; have HX5 := Lib.hid hX5; have HB5 := Lib.hid hb5
      clear hY5 hX5 hb5 hg5
      go_wp2
      go_roundw
      case measure => (simp [intOf]) <;> omega
      case rel => exact ⟨k + 1, by omega, rfl, HX5, Lib.hid (HY5.out.cast (by rw [HT.out])), HB5⟩
    · obtain rfl : k = l.length := by omega
      rw [List.take_length] at hY
      obtain ⟨s, hs⟩ : ∃ s, known l = s := ⟨_, rfl⟩
      rw [hs] at hY
      have HS := Lib.hid hs; clear hs
      have y0 := hY.out.at' 0 (by simp [St.cells]); have y1 := hY.out.at' 1 (by simp [St.cells]); have y2 := hY.out.at' 2 (by simp [St.cells]); have y3 := hY.out.at' 3 (by simp [St.cells])
      simp only [St.cells, List.getElem_cons_zero, List.getElem_cons_succ] at y0 y1 y2 y3
      go_wp2_with (refine stop_store (ty := 33) rfl ?_)
      refine ⟨wpList_store_blk rfl rfl hX.out (by rfl) (vs := s.cells) (by rfl) row33 rfl (by simp [St.cells, Value.oneCell']) ?_⟩
      intro W5 hX5 hg5
      have hb5 := Below.grownB hbel.out hg5 (by omega) hbel.out.size
      have HX5 := Lib.hid hX5; have HB5 := Lib.hid hb5; clear hX5 hb5 hg5 y0 y1 y2 y3
      go_wp2
      exact ret_blk (b := w.heap.size) rfl (by rfl) HX5.out row33 rfl ⟨by rw [HS.out], HB5.out⟩

theorem Res.oneCells (l : List Res) : ∀ u ∈ l.flatMap Res.cells, u.oneCell' = true := by
  intro u hu
  obtain ⟨p, -, hp⟩ := List.mem_flatMap.1 hu
  simp [Res.cells] at hp
  rcases hp with rfl | rfl | rfl | rfl | rfl | rfl | rfl | rfl <;> rfl

theorem of21 (l : List Res) (x : ByteArray) (w : World) (oa : Option Addr) (n c : Nat) (h : RRes w oa n c l) (hl : l.length ≤ 1000) :
    Calls Try.prog 21 #[.slice oa n c, .string x] w fun r w' => (∃ o' c', r = .returned (.slice o' (ofKey l x).length c') ∧ RRes w' o' (ofKey l x).length c' (ofKey l x)) ∧ Below w.heap.size w w' := by
  obtain rfl : n = l.length := h.rows.len
  have H := Lib.hid h; have HL := Lib.hid hl; clear h hl
  go_enter Try.func21, Try.ntmps21
  go_wp2
  go_loopw [5, 7, 10] (fun v _ i wr => ∃ k : Nat, k ≤ l.length ∧ i = .int .i64 k ∧ Hid (Own wr w.heap.size 36 8 v (ofKey (l.take k) x).length ((ofKey (l.take k) x).flatMap Res.cells)) ∧ Hid (Below w.heap.size w wr)) (fun _ _ i _ => l.length - (intOf i).toNat)
  case atStart => exact ⟨0, by omega, rfl, Lib.hid (Own.nil _ _ _ _), by (with_reducible try refine Lib.hid ?_); (repeat (with_reducible first | assumption | exact Below.refl _ _ | apply Below.drew | apply Below.drewN' | apply Below.setCell | apply Below.alloc)) <;> (try simp [length_fillTo, length_turnTo]) <;> (try omega)⟩
  case round =>
    obtain ⟨k, hk, rfl, hO, hbel⟩ := hrel
    by_cases hlt : k < l.length
    · have hi1 : (k : Int) < (l.length : Int) := by omega
      have rk : IntKind.i64.wrap ((k : Int) + 1) = ((k + 1 : Nat) : Int) := by
        have h1 := HL.out
        rw [IntKind.wrap_i64]; omega
      have hlen : (ofKey (l.take k) x).length ≤ 1000 := by
        have h1 := List.length_filter_le (fun r : Res => decide (r.key = x)) (l.take k)
        have h2 := HL.out
        simp only [List.length_take] at h1
        unfold ofKey; omega
      have HLEN := Lib.hid hlen; clear hlen
      have HT : Hid (ofKey (l.take (k + 1)) x = ofKey (l.take k) x ++ (if l[k].key = x then [l[k]] else [])) := by
        show _ = _
        rw [List.take_succ_eq_append_getElem hlt]
        unfold ofKey
        rw [List.filter_append]
        congr 1
        by_cases h : l[k].key = x <;> simp [h]
      obtain ⟨b1, p1, rfl, hb1, e0, e1, e2, e3, e4, e5, e6, e7⟩ := (H.out.rows.below hbel.out).res hlt
      obtain ⟨q1, hq1'⟩ : ∃ q, l[k] = q := ⟨_, rfl⟩
      rw [hq1'] at e0 e1 e2 e3 e4 e5 e6 e7 HT
      clear hq1'
      obtain ⟨job, kind, ver, key, val, has, gone, err⟩ := q1
      simp only at e0 e1 e2 e3 e4 e5 e6 e7 HT
      obtain ⟨L, hL⟩ : ∃ L, ofKey (l.take k) x = L := ⟨_, rfl⟩
      rw [hL] at hO HT HLEN
      clear hL
      have hal : Below wr.heap.size wr (wr.alloc (.cells (Res.cells ⟨job, kind, ver, key, val, has, gone, err⟩).toArray 36)) := (Below.refl _ _).alloc (Nat.le_refl _) _
      by_cases he : key = x
      · subst he
        rw [if_pos rfl] at HT
        have hal2 := hal.alloc hal.size (.cells (Res.cells ⟨job, kind, ver, key, val, has, gone, err⟩).toArray 36)
        have hO2 := hO.out.later hal2
        have hN2 : Blk ((wr.alloc (.cells (Res.cells ⟨job, kind, ver, key, val, has, gone, err⟩).toArray 36)).alloc (.cells (Res.cells ⟨job, kind, ver, key, val, has, gone, err⟩).toArray 36)) (wr.heap.size + 1) (Res.cells ⟨job, kind, ver, key, val, has, gone, err⟩) := Blk.new' (by simp)
        have hb2 := below_step hbel.out hal2
        have HO2 := Lib.hid hO2; have HN2 := Lib.hid hN2; have HB2 := Lib.hid hb2
        clear hal hal2 hO2 hN2 hb2 hO hbel
        go_wp2_with (refine stop_append rfl ?_)
        have hlen := HLEN.out
        refine ⟨wpList_app el22 rfl (by rfl) (by rfl) HO2.out (by rfl) (m := 1) rfl HN2.out.cells (by simp [Res.cells, Value.oneCell']) (by simp [maxLen]; omega) (by omega) HB2.out.size ?_⟩
        intro v3 W3 hO3 hg3
        have hb3 := HO2.out.below hg3 HB2.out (Nat.le_refl _) HB2.out.size
        have HO3 := Lib.hid hO3; have HB3 := Lib.hid hb3
        clear hO3 hg3 hb3 hlen HO2 HN2 HB2 e0 e1 e2 e3 e4 e5 e6 e7
        go_wp2
        go_roundw
        case measure => (simp [intOf]) <;> omega
        case rel =>
          refine ⟨k + 1, by omega, rfl, Lib.hid ?_, HB3⟩
          rw [HT.out]
          simpa using HO3.out
      · rw [if_neg he, List.append_nil] at HT
        have hne := strne he
        have hO2 := hO.out.later hal
        have hb2 := below_step hbel.out hal
        have HO2 := Lib.hid hO2; have HB2 := Lib.hid hb2
        clear hal hO2 hb2 hO hbel
        go_wp2
        go_roundw
        case measure => (simp [intOf]) <;> omega
        case rel => exact ⟨k + 1, by omega, rfl, Lib.hid (by rw [HT.out]; exact HO2.out), HB2⟩
    · obtain rfl : k = l.length := by omega
      rw [List.take_length] at hO
      obtain ⟨o', c', rfl, hR⟩ := Own.rws hO.out rfl
      have HR := Lib.hid hR; have HB := hbel; clear hR hbel hO
      go_wp2
      refine bodyPost_ret (v := .slice o' (ofKey l x).length c') (by simp [results, Try.results21, go_sem]) rfl ⟨⟨o', c', rfl, HR.out⟩, HB.out⟩
end Go.Proofs.Ytnfkjicoielpnaa
