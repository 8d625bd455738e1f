/-
  Great ones among nodes.
-/
import Derived.Test.YthdkgcmoagookaaWg
namespace Go.Proofs.Ythdkgcmoagookaa
open Go.RowKit
set_option maxHeartbeats 4000000
set_option maxRecDepth 20000
set_option linter.unusedVariables false
set_option linter.unusedSimpArgs false

def GreatN (n m : Nat) (e : Ending) : Prop := ∃ b, e = .returned (.bool b) ∧ (b = false → n ≤ m)

theorem great23 (l : List Pe) (w : World) (oa : Option Addr) (n c : Nat) (h : RPe w oa n c l) :
    Calls Try.prog 23 #[.slice oa n c] w fun r w' => GreatN l.length 40 r ∧ Below w.heap.size w w' := by
  obtain rfl : n = l.length := h.rows.len
  have H := Lib.hid h; clear h
  by_cases hlen : 40 < l.length
  · have hlen' : (40 : Int) < (l.length : Int) := by omega
    clear hlen
    go_enter Try.func23, Try.ntmps23
    go_wp2
    refine bodyPost_ret (v := .bool true) (by simp [results, Try.results23, go_sem]) rfl ⟨⟨true, rfl, fun h => by simp at h⟩, Below.refl _ _⟩
  · have hlen' : ¬ (40 : Int) < (l.length : Int) := by omega
    have HLEN : Hid (l.length ≤ 40) := by show _ ≤ _; omega
    go_enter Try.func23, Try.ntmps23
    go_wp2
    clear hlen hlen'
    go_loopw [3] (fun i wr => ∃ (k : Nat), k ≤ l.length ∧ i = .int .i64 k ∧ Hid (Below w.heap.size w wr)) (fun i _ => l.length - (intOf i).toNat)
    case atStart => exact ⟨0, by omega, rfl, by (with_reducible try refine Lib.hid ?_); (repeat (with_reducible first | assumption | exact Below.refl _ _ | apply Below.drew | apply Below.drewN' | apply Below.setCell | apply Below.alloc)) <;> (try simp [length_fillTo, length_turnTo]) <;> (try omega)⟩
    case round =>
      obtain ⟨k, hk, rfl, hbel⟩ := hrel
      by_cases hlt : k < l.length
      · have hi1 : (k : Int) < (l.length : Int) := by omega
        have rk : IntKind.i64.wrap ((k : Int) + 1) = ((k + 1 : Nat) : Int) := by
          have h1 := HLEN.out
          rw [IntKind.wrap_i64]; omega
        obtain ⟨b1, p1, rfl, hA⟩ := (H.out.rows.below hbel.out).pe hlt
        obtain ⟨s, hs⟩ : ∃ s, l[k] = s := ⟨_, rfl⟩
        rw [hs] at hA
        clear hs
        go_wp2_with (refine stop_load (ty := 29) rfl ?_)
        refine ⟨wpList_load_at rfl rfl hA.ent (by rfl) row29 ?_⟩
        clear hA
        go_wp2_with fail
        refine (great21 s.ent wr).mono ?_
        rintro r w1 ⟨⟨b, rfl⟩, hb⟩
        have HB := Lib.hid (below_step hbel.out hb); clear hb hbel
        cases b
        · go_wp2
          go_roundw
          case measure => (simp [intOf]) <;> omega
          case rel => exact ⟨k + 1, by omega, rfl, HB⟩
        · go_wp2
          refine bodyPost_ret (v := .bool true) (by simp [results, Try.results23, go_sem]) rfl ⟨⟨true, rfl, fun h => by simp at h⟩, HB.out⟩
      · obtain rfl : k = l.length := by omega
        go_wp2
        refine bodyPost_ret (v := .bool false) (by simp [results, Try.results23, go_sem]) rfl ⟨⟨false, rfl, fun _ => HLEN.out⟩, hbel.out⟩

theorem great26 (l : List It) (w : World) (oa : Option Addr) (n c : Nat) (h : RIt w oa n c l) :
    Calls Try.prog 26 #[.slice oa n c] w fun r w' => GreatN l.length 60 r ∧ Below w.heap.size w w' := by
  obtain rfl : n = l.length := h.rows.len
  have H := Lib.hid h; clear h
  by_cases hlen : 60 < l.length
  · have hlen' : (60 : Int) < (l.length : Int) := by omega
    clear hlen
    go_enter Try.func26, Try.ntmps26
    go_wp2
    refine bodyPost_ret (v := .bool true) (by simp [results, Try.results26, go_sem]) rfl ⟨⟨true, rfl, fun h => by simp at h⟩, Below.refl _ _⟩
  · have hlen' : ¬ (60 : Int) < (l.length : Int) := by omega
    have HLEN : Hid (l.length ≤ 60) := by show _ ≤ _; omega
    go_enter Try.func26, Try.ntmps26
    go_wp2
    clear hlen hlen'
    go_loopw [3] (fun i wr => ∃ (k : Nat), k ≤ l.length ∧ i = .int .i64 k ∧ Hid (Below w.heap.size w wr)) (fun i _ => l.length - (intOf i).toNat)
    case atStart => exact ⟨0, by omega, rfl, by (with_reducible try refine Lib.hid ?_); (repeat (with_reducible first | assumption | exact Below.refl _ _ | apply Below.drew | apply Below.drewN' | apply Below.setCell | apply Below.alloc)) <;> (try simp [length_fillTo, length_turnTo]) <;> (try omega)⟩
    case round =>
      obtain ⟨k, hk, rfl, hbel⟩ := hrel
      by_cases hlt : k < l.length
      · have hi1 : (k : Int) < (l.length : Int) := by omega
        have rk : IntKind.i64.wrap ((k : Int) + 1) = ((k + 1 : Nat) : Int) := by
          have h1 := HLEN.out
          rw [IntKind.wrap_i64]; omega
        obtain ⟨b1, p1, rfl, hA⟩ := (H.out.rows.below hbel.out).it hlt
        obtain ⟨s, hs⟩ : ∃ s, l[k] = s := ⟨_, rfl⟩
        rw [hs] at hA
        clear hs
        have y0 : wr.cell? ⟨b1, p1 + k * 4, none⟩ = some (.string s.key) := hA.get 0 (by simp [It.cells])
        have y1 : wr.cell? ⟨b1, p1 + k * 4 + 1, none⟩ = some (.string s.val) := hA.get 1 (by simp [It.cells])
        have hxl := hA.lt
        clear hA
        by_cases h5 : (300 : Int) < (s.key.size : Int)
        · go_wp2
          refine bodyPost_ret (v := .bool true) (by simp [results, Try.results26, go_sem]) rfl ⟨⟨true, rfl, fun h => by simp at h⟩, hbel.out⟩
        by_cases h6 : (300 : Int) < (s.val.size : Int)
        · go_wp2
          refine bodyPost_ret (v := .bool true) (by simp [results, Try.results26, go_sem]) rfl ⟨⟨true, rfl, fun h => by simp at h⟩, hbel.out⟩
        go_wp2
        go_roundw
        case measure => (simp [intOf]) <;> omega
        case rel => exact ⟨k + 1, by omega, rfl, hbel⟩
      · obtain rfl : k = l.length := by omega
        go_wp2
        refine bodyPost_ret (v := .bool false) (by simp [results, Try.results26, go_sem]) rfl ⟨⟨false, rfl, fun _ => HLEN.out⟩, hbel.out⟩

theorem great8 (l : List En) (w : World) (oa : Option Addr) (n c : Nat) (h : REn w oa n c l) :
    Calls Try.prog 8 #[.slice oa n c] w fun r w' => GreatN l.length 60 r ∧ Below w.heap.size w w' := by
  obtain rfl : n = l.length := h.rows.len
  have H := Lib.hid h; clear h
  by_cases hlen : 60 < l.length
  · have hlen' : (60 : Int) < (l.length : Int) := by omega
    clear hlen
    go_enter Try.func8, Try.ntmps8
    go_wp2
    refine bodyPost_ret (v := .bool true) (by simp [results, Try.results8, go_sem]) rfl ⟨⟨true, rfl, fun h => by simp at h⟩, Below.refl _ _⟩
  · have hlen' : ¬ (60 : Int) < (l.length : Int) := by omega
    have HLEN : Hid (l.length ≤ 60) := by show _ ≤ _; omega
    go_enter Try.func8, Try.ntmps8
    go_wp2
    clear hlen hlen'
    go_loopw [3] (fun i wr => ∃ (k : Nat), k ≤ l.length ∧ i = .int .i64 k ∧ Hid (Below w.heap.size w wr)) (fun i _ => l.length - (intOf i).toNat)
    case atStart => exact ⟨0, by omega, rfl, by (with_reducible try refine Lib.hid ?_); (repeat (with_reducible first | assumption | exact Below.refl _ _ | apply Below.drew | apply Below.drewN' | apply Below.setCell | apply Below.alloc)) <;> (try simp [length_fillTo, length_turnTo]) <;> (try omega)⟩
    case round =>
      obtain ⟨k, hk, rfl, hbel⟩ := hrel
      by_cases hlt : k < l.length
      · have hi1 : (k : Int) < (l.length : Int) := by omega
        have rk : IntKind.i64.wrap ((k : Int) + 1) = ((k + 1 : Nat) : Int) := by
          have h1 := HLEN.out
          rw [IntKind.wrap_i64]; omega
        obtain ⟨b1, p1, rfl, hA⟩ := (H.out.rows.below hbel.out).en hlt
        obtain ⟨s, hs⟩ : ∃ s, l[k] = s := ⟨_, rfl⟩
        rw [hs] at hA
        clear hs
        go_wp2_with (refine stop_load (ty := 29) rfl ?_)
        refine ⟨wpList_load_at rfl rfl hA (by rfl) row29 ?_⟩
        clear hA
        go_wp2_with fail
        refine (great21 s wr).mono ?_
        rintro r w1 ⟨⟨b, rfl⟩, hb⟩
        have HB := Lib.hid (below_step hbel.out hb); clear hb hbel
        cases b
        · go_wp2
          go_roundw
          case measure => (simp [intOf]) <;> omega
          case rel => exact ⟨k + 1, by omega, rfl, HB⟩
        · go_wp2
          refine bodyPost_ret (v := .bool true) (by simp [results, Try.results8, go_sem]) rfl ⟨⟨true, rfl, fun h => by simp at h⟩, HB.out⟩
      · obtain rfl : k = l.length := by omega
        go_wp2
        refine bodyPost_ret (v := .bool false) (by simp [results, Try.results8, go_sem]) rfl ⟨⟨false, rfl, fun _ => HLEN.out⟩, hbel.out⟩

theorem At.me {w : World} {b o : Nat} {p : Nd} (h : At w b o p.cells) : At w b o p.me.cells := by
  have := At.sub (k := 0) (ds := p.me.cells) h fun j hj => by
    simp only [En.cells, List.length_cons, List.length_nil] at hj
    rcases (by omega : j = 0 ∨ j = 1 ∨ j = 2 ∨ j = 3 ∨ j = 4 ∨ j = 5) with rfl | rfl | rfl | rfl | rfl | rfl <;> rfl
  simpa using this
theorem At.owner {w : World} {b o : Nat} {p : Jb} (h : At w b o p.cells) : At w b (o + 8) p.owner.cells := h.sub fun j hj => by
  simp only [En.cells, List.length_cons, List.length_nil] at hj
  rcases (by omega : j = 0 ∨ j = 1 ∨ j = 2 ∨ j = 3 ∨ j = 4 ∨ j = 5) with rfl | rfl | rfl | rfl | rfl | rfl <;> rfl
theorem At.back {w : World} {b o : Nat} {p : Jb} (h : At w b o p.cells) : At w b (o + 21) p.back.cells := h.sub fun j hj => by
  simp only [En.cells, List.length_cons, List.length_nil] at hj
  rcases (by omega : j = 0 ∨ j = 1 ∨ j = 2 ∨ j = 3 ∨ j = 4 ∨ j = 5) with rfl | rfl | rfl | rfl | rfl | rfl <;> rfl
theorem At.fent {w : World} {b o : Nat} {p : Fi} (h : At w b o p.cells) : At w b (o + 1) p.peer.ent.cells := h.fp.ent

def FewOk (n : Nd) (e : Ending) : Prop := ∃ b, e = .returned (.bool b) ∧ (b = false → n.Few)
def jb0 : Jb := ⟨0, 0, 0, 0, 0, 0, ⟨#[]⟩, ⟨#[]⟩, ⟨⟨#[]⟩, 0, 0, 0, 0, ⟨#[]⟩⟩, ⟨⟨#[]⟩, ⟨#[]⟩, 0, false⟩, 0, 0, ⟨[], none, 0⟩, ⟨⟨#[]⟩, 0, 0, 0, 0, ⟨#[]⟩⟩, 0, 0⟩
theorem great12 (n : Nd) (w : World) (hn : n.Good w) : Calls Try.prog 12 #[.agg n.cells.toArray] w fun r w' => FewOk n r ∧ Below w.heap.size w w' := by
  have hal : Below w.heap.size w (w.alloc (.cells n.cells.toArray 41)) := (Below.refl _ _).alloc (Nat.le_refl _) _
  have hX : Blk (w.alloc (.cells n.cells.toArray 41)) w.heap.size n.cells := Blk.new' rfl
  have hn1 := hn.below hal
  have HB := Lib.hid hal; have HX := Lib.hid hX; have HN := Lib.hid hn1
  clear hal hX hn hn1
  obtain ⟨me, clock, psk, gidx, gkey, ready, ⟨pl, po, pc⟩, ⟨ll, lo, lc⟩, ⟨fl, fo, fc⟩, ⟨sl, so, sc⟩, ⟨ql, qo, qc⟩, ⟨il, io, ic⟩, ⟨jl, jo, jc⟩, rid, jobId, drO, drN, drC, ⟨rl, ro, rc⟩⟩ := n
  obtain ⟨n, hnn⟩ : ∃ q : Nd, ⟨me, clock, psk, gidx, gkey, ready, ⟨pl, po, pc⟩, ⟨ll, lo, lc⟩, ⟨fl, fo, fc⟩, ⟨sl, so, sc⟩, ⟨ql, qo, qc⟩, ⟨il, io, ic⟩, ⟨jl, jo, jc⟩, rid, jobId, drO, drN, drC, ⟨rl, ro, rc⟩⟩ = q := ⟨_, rfl⟩
  have HNN := Lib.hid hnn
  rw [hnn] at HB HX HN ⊢
  have eme : n.me = me := by rw [← hnn]
  go_enter Try.func12, Try.ntmps12
  simp only [List.append_eq, List.cons_append, List.nil_append]
  go_wp2_with (refine stop_load (ty := 29) rfl ?_)
  refine ⟨wpList_load_at rfl rfl HX.out.at_.me (by rfl) row29 ?_⟩
  go_wp2_with fail
  refine (great21 me _).mono ?_
  rintro r w1 ⟨⟨b, rfl⟩, hb⟩
  have HX1 := Lib.hid (HX.out.later hb); have HN1 := Lib.hid (HN.out.below hb); have HB1 := Lib.hid (below_step HB.out hb)
  clear hb HX HN HB
  cases b
  rotate_left
  · go_wp2
    refine bodyPost_ret (v := .bool true) (by simp [results, Try.results12, go_sem]) rfl ⟨⟨true, rfl, fun h => by simp at h⟩, HB1.out⟩
  have hXl := HX1.out; have xl := hXl.lt
  have x7 : w1.cell? ⟨w.heap.size, 7, none⟩ = some (.string psk) := by have h := nd_at hXl 7 (by omega); simp only [← HNN.out] at h; exact h
  have x9 : w1.cell? ⟨w.heap.size, 9, none⟩ = some (.string gkey) := by have h := nd_at hXl 9 (by omega); simp only [← HNN.out] at h; exact h
  have x11 : w1.cell? ⟨w.heap.size, 11, none⟩ = some (.slice po pl.length pc) := by have h := nd_at hXl 11 (by omega); simp only [← HNN.out] at h; exact h
  have x12 : w1.cell? ⟨w.heap.size, 12, none⟩ = some (.slice lo ll.length lc) := by have h := nd_at hXl 12 (by omega); simp only [← HNN.out] at h; exact h
  have x13 : w1.cell? ⟨w.heap.size, 13, none⟩ = some (.slice fo fl.length fc) := by have h := nd_at hXl 13 (by omega); simp only [← HNN.out] at h; exact h
  have x14 : w1.cell? ⟨w.heap.size, 14, none⟩ = some (.slice so sl.length sc) := by have h := nd_at hXl 14 (by omega); simp only [← HNN.out] at h; exact h
  have x15 : w1.cell? ⟨w.heap.size, 15, none⟩ = some (.slice qo ql.length qc) := by have h := nd_at hXl 15 (by omega); simp only [← HNN.out] at h; exact h
  have x16 : w1.cell? ⟨w.heap.size, 16, none⟩ = some (.slice io il.length ic) := by have h := nd_at hXl 16 (by omega); simp only [← HNN.out] at h; exact h
  have x17 : w1.cell? ⟨w.heap.size, 17, none⟩ = some (.slice jo jl.length jc) := by have h := nd_at hXl 17 (by omega); simp only [← HNN.out] at h; exact h
  have x20 : w1.cell? ⟨w.heap.size, 20, none⟩ = some (.slice drO drN drC) := by have h := nd_at hXl 20 (by omega); simp only [← HNN.out] at h; exact h
  have x21 : w1.cell? ⟨w.heap.size, 21, none⟩ = some (.slice ro rl.length rc) := by have h := nd_at hXl 21 (by omega); simp only [← HNN.out] at h; exact h
  clear hXl
  by_cases h1 : (300 : Int) < (psk.size : Int)
  · go_wp2
    refine bodyPost_ret (v := .bool true) (by simp [results, Try.results12, go_sem]) rfl ⟨⟨true, rfl, fun h => by simp at h⟩, HB1.out⟩
  by_cases h2 : (300 : Int) < (gkey.size : Int)
  · go_wp2
    refine bodyPost_ret (v := .bool true) (by simp [results, Try.results12, go_sem]) rfl ⟨⟨true, rfl, fun h => by simp at h⟩, HB1.out⟩
  have hP := HN1.out.pred.rows; rw [← HNN.out] at hP
  go_wp2_with fail
  refine (great23 pl w1 po _ pc hP).mono ?_
  rintro r w2 ⟨⟨b, rfl, hq1⟩, hb⟩
  have HX2 := Lib.hid (HX1.out.later hb); have HN2 := Lib.hid (HN1.out.below hb); have HB2 := Lib.hid (below_step HB1.out hb)
  clear hP hb HX1 HN1 HB1 x7 x9 x11 x12 x13 x14 x15 x16 x17 x20 x21 xl
  cases b
  rotate_left
  · go_wp2
    refine bodyPost_ret (v := .bool true) (by simp [results, Try.results12, go_sem]) rfl ⟨⟨true, rfl, fun h => by simp at h⟩, HB2.out⟩
  have HQ1 := Lib.hid (hq1 rfl)
  clear hq1
  have hXl := HX2.out; have xl := hXl.lt
  have x11 : w2.cell? ⟨w.heap.size, 11, none⟩ = some (.slice po pl.length pc) := by have h := nd_at hXl 11 (by omega); simp only [← HNN.out] at h; exact h
  have x12 : w2.cell? ⟨w.heap.size, 12, none⟩ = some (.slice lo ll.length lc) := by have h := nd_at hXl 12 (by omega); simp only [← HNN.out] at h; exact h
  have x13 : w2.cell? ⟨w.heap.size, 13, none⟩ = some (.slice fo fl.length fc) := by have h := nd_at hXl 13 (by omega); simp only [← HNN.out] at h; exact h
  have x14 : w2.cell? ⟨w.heap.size, 14, none⟩ = some (.slice so sl.length sc) := by have h := nd_at hXl 14 (by omega); simp only [← HNN.out] at h; exact h
  have x15 : w2.cell? ⟨w.heap.size, 15, none⟩ = some (.slice qo ql.length qc) := by have h := nd_at hXl 15 (by omega); simp only [← HNN.out] at h; exact h
  have x16 : w2.cell? ⟨w.heap.size, 16, none⟩ = some (.slice io il.length ic) := by have h := nd_at hXl 16 (by omega); simp only [← HNN.out] at h; exact h
  have x17 : w2.cell? ⟨w.heap.size, 17, none⟩ = some (.slice jo jl.length jc) := by have h := nd_at hXl 17 (by omega); simp only [← HNN.out] at h; exact h
  have x20 : w2.cell? ⟨w.heap.size, 20, none⟩ = some (.slice drO drN drC) := by have h := nd_at hXl 20 (by omega); simp only [← HNN.out] at h; exact h
  have x21 : w2.cell? ⟨w.heap.size, 21, none⟩ = some (.slice ro rl.length rc) := by have h := nd_at hXl 21 (by omega); simp only [← HNN.out] at h; exact h
  clear hXl
  have hP := HN2.out.list.rows; rw [← HNN.out] at hP
  go_wp2_with fail
  refine (great23 ll w2 lo _ lc hP).mono ?_
  rintro r w3 ⟨⟨b, rfl, hq2⟩, hb⟩
  have HX3 := Lib.hid (HX2.out.later hb); have HN3 := Lib.hid (HN2.out.below hb); have HB3 := Lib.hid (below_step HB2.out hb)
  clear hP hb HX2 HN2 HB2 x11 x12 x13 x14 x15 x16 x17 x20 x21 xl
  cases b
  rotate_left
  · go_wp2
    refine bodyPost_ret (v := .bool true) (by simp [results, Try.results12, go_sem]) rfl ⟨⟨true, rfl, fun h => by simp at h⟩, HB3.out⟩
  have HQ2 := Lib.hid (hq2 rfl)
  clear hq2
  have hXl := HX3.out; have xl := hXl.lt
  have x12 : w3.cell? ⟨w.heap.size, 12, none⟩ = some (.slice lo ll.length lc) := by have h := nd_at hXl 12 (by omega); simp only [← HNN.out] at h; exact h
  have x13 : w3.cell? ⟨w.heap.size, 13, none⟩ = some (.slice fo fl.length fc) := by have h := nd_at hXl 13 (by omega); simp only [← HNN.out] at h; exact h
  have x14 : w3.cell? ⟨w.heap.size, 14, none⟩ = some (.slice so sl.length sc) := by have h := nd_at hXl 14 (by omega); simp only [← HNN.out] at h; exact h
  have x15 : w3.cell? ⟨w.heap.size, 15, none⟩ = some (.slice qo ql.length qc) := by have h := nd_at hXl 15 (by omega); simp only [← HNN.out] at h; exact h
  have x16 : w3.cell? ⟨w.heap.size, 16, none⟩ = some (.slice io il.length ic) := by have h := nd_at hXl 16 (by omega); simp only [← HNN.out] at h; exact h
  have x17 : w3.cell? ⟨w.heap.size, 17, none⟩ = some (.slice jo jl.length jc) := by have h := nd_at hXl 17 (by omega); simp only [← HNN.out] at h; exact h
  have x20 : w3.cell? ⟨w.heap.size, 20, none⟩ = some (.slice drO drN drC) := by have h := nd_at hXl 20 (by omega); simp only [← HNN.out] at h; exact h
  have x21 : w3.cell? ⟨w.heap.size, 21, none⟩ = some (.slice ro rl.length rc) := by have h := nd_at hXl 21 (by omega); simp only [← HNN.out] at h; exact h
  clear hXl
  by_cases h3 : (70 : Int) < (fl.length : Int)
  · go_wp2
    refine bodyPost_ret (v := .bool true) (by simp [results, Try.results12, go_sem]) rfl ⟨⟨true, rfl, fun h => by simp at h⟩, HB3.out⟩
  have hP := HN3.out.sess.rows; rw [← HNN.out] at hP
  go_wp2_with fail
  refine (great24 sl w3 so _ sc hP).mono ?_
  rintro r w4 ⟨⟨b, rfl, hq3⟩, hb⟩
  have HX4 := Lib.hid (HX3.out.later hb); have HN4 := Lib.hid (HN3.out.below hb); have HB4 := Lib.hid (below_step HB3.out hb)
  clear hP hb HX3 HN3 HB3 x12 x13 x14 x15 x16 x17 x20 x21 xl
  cases b
  rotate_left
  · go_wp2
    refine bodyPost_ret (v := .bool true) (by simp [results, Try.results12, go_sem]) rfl ⟨⟨true, rfl, fun h => by simp at h⟩, HB4.out⟩
  have HQ3 := Lib.hid (hq3 rfl)
  clear hq3
  have hXl := HX4.out; have xl := hXl.lt
  have x12 : w4.cell? ⟨w.heap.size, 12, none⟩ = some (.slice lo ll.length lc) := by have h := nd_at hXl 12 (by omega); simp only [← HNN.out] at h; exact h
  have x13 : w4.cell? ⟨w.heap.size, 13, none⟩ = some (.slice fo fl.length fc) := by have h := nd_at hXl 13 (by omega); simp only [← HNN.out] at h; exact h
  have x14 : w4.cell? ⟨w.heap.size, 14, none⟩ = some (.slice so sl.length sc) := by have h := nd_at hXl 14 (by omega); simp only [← HNN.out] at h; exact h
  have x15 : w4.cell? ⟨w.heap.size, 15, none⟩ = some (.slice qo ql.length qc) := by have h := nd_at hXl 15 (by omega); simp only [← HNN.out] at h; exact h
  have x16 : w4.cell? ⟨w.heap.size, 16, none⟩ = some (.slice io il.length ic) := by have h := nd_at hXl 16 (by omega); simp only [← HNN.out] at h; exact h
  have x17 : w4.cell? ⟨w.heap.size, 17, none⟩ = some (.slice jo jl.length jc) := by have h := nd_at hXl 17 (by omega); simp only [← HNN.out] at h; exact h
  have x20 : w4.cell? ⟨w.heap.size, 20, none⟩ = some (.slice drO drN drC) := by have h := nd_at hXl 20 (by omega); simp only [← HNN.out] at h; exact h
  have x21 : w4.cell? ⟨w.heap.size, 21, none⟩ = some (.slice ro rl.length rc) := by have h := nd_at hXl 21 (by omega); simp only [← HNN.out] at h; exact h
  clear hXl
  have hP : RPd w4 qo ql.length qc ql := by have h := HN4.out.pends; rw [← HNN.out] at h; exact ⟨h.rows.rows, h.good⟩
  go_wp2_with fail
  refine (great25 ql w4 qo _ qc hP).mono ?_
  rintro r w5 ⟨⟨b, rfl, hq4⟩, hb⟩
  have HX5 := Lib.hid (HX4.out.later hb); have HN5 := Lib.hid (HN4.out.below hb); have HB5 := Lib.hid (below_step HB4.out hb)
  clear hP hb HX4 HN4 HB4 x12 x13 x14 x15 x16 x17 x20 x21 xl
  cases b
  rotate_left
  · go_wp2
    refine bodyPost_ret (v := .bool true) (by simp [results, Try.results12, go_sem]) rfl ⟨⟨true, rfl, fun h => by simp at h⟩, HB5.out⟩
  have HQ4 := Lib.hid (hq4 rfl)
  clear hq4
  have hXl := HX5.out; have xl := hXl.lt
  have x12 : w5.cell? ⟨w.heap.size, 12, none⟩ = some (.slice lo ll.length lc) := by have h := nd_at hXl 12 (by omega); simp only [← HNN.out] at h; exact h
  have x13 : w5.cell? ⟨w.heap.size, 13, none⟩ = some (.slice fo fl.length fc) := by have h := nd_at hXl 13 (by omega); simp only [← HNN.out] at h; exact h
  have x14 : w5.cell? ⟨w.heap.size, 14, none⟩ = some (.slice so sl.length sc) := by have h := nd_at hXl 14 (by omega); simp only [← HNN.out] at h; exact h
  have x15 : w5.cell? ⟨w.heap.size, 15, none⟩ = some (.slice qo ql.length qc) := by have h := nd_at hXl 15 (by omega); simp only [← HNN.out] at h; exact h
  have x16 : w5.cell? ⟨w.heap.size, 16, none⟩ = some (.slice io il.length ic) := by have h := nd_at hXl 16 (by omega); simp only [← HNN.out] at h; exact h
  have x17 : w5.cell? ⟨w.heap.size, 17, none⟩ = some (.slice jo jl.length jc) := by have h := nd_at hXl 17 (by omega); simp only [← HNN.out] at h; exact h
  have x20 : w5.cell? ⟨w.heap.size, 20, none⟩ = some (.slice drO drN drC) := by have h := nd_at hXl 20 (by omega); simp only [← HNN.out] at h; exact h
  have x21 : w5.cell? ⟨w.heap.size, 21, none⟩ = some (.slice ro rl.length rc) := by have h := nd_at hXl 21 (by omega); simp only [← HNN.out] at h; exact h
  clear hXl
  have hP := HN5.out.items.rows; rw [← HNN.out] at hP
  go_wp2_with fail
  refine (great26 il w5 io _ ic hP).mono ?_
  rintro r w6 ⟨⟨b, rfl, hq5⟩, hb⟩
  have HX6 := Lib.hid (HX5.out.later hb); have HN6 := Lib.hid (HN5.out.below hb); have HB6 := Lib.hid (below_step HB5.out hb)
  clear hP hb HX5 HN5 HB5 x12 x13 x14 x15 x16 x17 x20 x21 xl
  cases b
  rotate_left
  · go_wp2
    refine bodyPost_ret (v := .bool true) (by simp [results, Try.results12, go_sem]) rfl ⟨⟨true, rfl, fun h => by simp at h⟩, HB6.out⟩
  have HQ5 := Lib.hid (hq5 rfl)
  clear hq5
  have hXl := HX6.out; have xl := hXl.lt
  have x12 : w6.cell? ⟨w.heap.size, 12, none⟩ = some (.slice lo ll.length lc) := by have h := nd_at hXl 12 (by omega); simp only [← HNN.out] at h; exact h
  have x13 : w6.cell? ⟨w.heap.size, 13, none⟩ = some (.slice fo fl.length fc) := by have h := nd_at hXl 13 (by omega); simp only [← HNN.out] at h; exact h
  have x14 : w6.cell? ⟨w.heap.size, 14, none⟩ = some (.slice so sl.length sc) := by have h := nd_at hXl 14 (by omega); simp only [← HNN.out] at h; exact h
  have x15 : w6.cell? ⟨w.heap.size, 15, none⟩ = some (.slice qo ql.length qc) := by have h := nd_at hXl 15 (by omega); simp only [← HNN.out] at h; exact h
  have x16 : w6.cell? ⟨w.heap.size, 16, none⟩ = some (.slice io il.length ic) := by have h := nd_at hXl 16 (by omega); simp only [← HNN.out] at h; exact h
  have x17 : w6.cell? ⟨w.heap.size, 17, none⟩ = some (.slice jo jl.length jc) := by have h := nd_at hXl 17 (by omega); simp only [← HNN.out] at h; exact h
  have x20 : w6.cell? ⟨w.heap.size, 20, none⟩ = some (.slice drO drN drC) := by have h := nd_at hXl 20 (by omega); simp only [← HNN.out] at h; exact h
  have x21 : w6.cell? ⟨w.heap.size, 21, none⟩ = some (.slice ro rl.length rc) := by have h := nd_at hXl 21 (by omega); simp only [← HNN.out] at h; exact h
  clear hXl
  by_cases h4 : (20 : Int) < (jl.length : Int)
  · go_wp2
    refine bodyPost_ret (v := .bool true) (by simp [results, Try.results12, go_sem]) rfl ⟨⟨true, rfl, fun h => by simp at h⟩, HB6.out⟩
  by_cases h5 : (60 : Int) < (drN : Int)
  · go_wp2
    refine bodyPost_ret (v := .bool true) (by simp [results, Try.results12, go_sem]) rfl ⟨⟨true, rfl, fun h => by simp at h⟩, HB6.out⟩
  by_cases h6 : (40 : Int) < (rl.length : Int)
  · go_wp2
    refine bodyPost_ret (v := .bool true) (by simp [results, Try.results12, go_sem]) rfl ⟨⟨true, rfl, fun h => by simp at h⟩, HB6.out⟩
  have HFEW : Hid (n.Few) := by
    show Nd.Few n
    rw [← hnn]
    exact ⟨HQ1.out, HQ2.out, by show fl.length ≤ 70; omega⟩
  have HLN : Hid (fl.length ≤ 70 ∧ jl.length ≤ 20 ∧ rl.length ≤ 40) := by show _ ∧ _; omega
  have HF : Hid (Rws Fi.cells w6 fo fl.length fc fl) := by have h := HN6.out.fings.rows; rw [← hnn] at h; exact h
  have HR : Hid (Rws Rs.cells w6 ro rl.length rc rl) := by have h := HN6.out.ress.rows; rw [← hnn] at h; exact h
  have HJ : Hid (Rws Jb.cells w6 jo jl.length jc jl ∧ ∀ p ∈ jl, p.asked.In strC w6) := by have h := HN6.out.jobs; rw [← hnn] at h; exact ⟨h.rows.rows, h.good⟩
  clear hnn eme
  go_wp2
  clear h1 h2 h3 h4 h5 h6 x12 x13 x14 x15 x16 x17 x20 x21 xl HQ1 HQ2 HQ3 HQ4 HQ5
  go_loopw [3] (fun i wr => ∃ k : Nat, k ≤ fl.length ∧ i = .int .i64 k ∧ Hid (Below w6.heap.size w6 wr)) (fun i _ => fl.length - (intOf i).toNat)
  case atStart => exact ⟨0, by omega, rfl, Lib.hid (Below.refl _ _)⟩
  case round =>
    obtain ⟨k, hk, rfl, hC⟩ := hrel
    have hXr := HX6.out.later hC.out
    have x13 : wr.cell? ⟨w.heap.size, 13, none⟩ = some (.slice fo fl.length fc) := by have h := nd_at hXr 13 (by omega); simp only [← HNN.out] at h; exact h
    have xl := hXr.lt
    clear hXr
    by_cases hlt : k < fl.length
    · have hi1 : (k : Int) < (fl.length : Int) := by omega
      have rk : IntKind.i64.wrap ((k : Int) + 1) = ((k + 1 : Nat) : Int) := by
        have h1 := HLN.out.1
        rw [IntKind.wrap_i64]; omega
      obtain ⟨b1, p1, rfl, hA⟩ := (HF.out.rows.below hC.out).fi hlt
      obtain ⟨s, hs⟩ : ∃ s, fl[k] = s := ⟨_, rfl⟩
      rw [hs] at hA
      clear hs
      go_wp2_with (refine stop_load (ty := 29) rfl ?_)
      refine ⟨wpList_load_at rfl rfl hA.fent (by rfl) row29 ?_⟩
      clear hA x13 xl
      go_wp2_with fail
      refine (great21 s.peer.ent wr).mono ?_
      rintro r w7 ⟨⟨b, rfl⟩, hb⟩
      have HC2 := Lib.hid (below_step hC.out hb); clear hb hC
      cases b
      · go_wp2
        go_roundw
        case measure => (simp [intOf]) <;> omega
        case rel => exact ⟨k + 1, by omega, rfl, HC2⟩
      · go_wp2
        refine bodyPost_ret (v := .bool true) (by simp [results, Try.results12, go_sem]) rfl ⟨⟨true, rfl, fun h => by simp at h⟩, below_step HB6.out HC2.out⟩
    obtain rfl : k = fl.length := by omega
    have HJ2 : Hid (Rws Jb.cells wr jo jl.length jc jl ∧ ∀ p ∈ jl, p.asked.In strC wr) := ⟨HJ.out.1.below hC.out, fun p hp => (HJ.out.2 p hp).below hC.out⟩
    have HR2 := Lib.hid (HR.out.below hC.out)
    have HX7 := Lib.hid (HX6.out.later hC.out)
    have HB7 := Lib.hid (below_step HB6.out hC.out)
    obtain ⟨w7, rfl⟩ : ∃ q, q = wr := ⟨_, rfl⟩
    clear hC HJ HR HF HX6 HN6 HB6
    go_wp2
    clear x13 xl hlt hk
    go_loopw [4] (fun i wr => ∃ k : Nat, k ≤ jl.length ∧ i = .int .i64 k ∧ Hid (Below w7.heap.size w7 wr)) (fun i _ => jl.length - (intOf i).toNat)
    case atStart => exact ⟨0, by omega, rfl, Lib.hid (Below.refl _ _)⟩
    case round =>
      obtain ⟨k, hk, rfl, hC⟩ := hrel
      have hXr := HX7.out.later hC.out
      have x17 : wr.cell? ⟨w.heap.size, 17, none⟩ = some (.slice jo jl.length jc) := by have h := nd_at hXr 17 (by omega); simp only [← HNN.out] at h; exact h
      have xl := hXr.lt
      clear hXr
      by_cases hlt : k < jl.length
      · have hi1 : (k : Int) < (jl.length : Int) := by omega
        have rk : IntKind.i64.wrap ((k : Int) + 1) = ((k + 1 : Nat) : Int) := by
          have h1 := HLN.out.2.1
          rw [IntKind.wrap_i64]; omega
        have hGJ := (HJ2.out.2 _ (List.getElem_mem hlt)).below hC.out
        obtain ⟨b1, p1, rfl, hA⟩ := (HJ2.out.1.rows.below hC.out).jb hlt
        obtain ⟨s, hs⟩ : ∃ s, jl[k] = s := ⟨_, rfl⟩
        rw [hs] at hA hGJ
        have HA := Lib.hid hA; have HGJ := Lib.hid hGJ
        clear hs hA hGJ
        obtain ⟨w8, rfl⟩ : ∃ q, q = wr := ⟨_, rfl⟩
        have hZ : Blk (w8.alloc (.cells jb0.cells.toArray 67)) w8.heap.size jb0.cells := Blk.new' rfl
        have hal : Below w8.heap.size w8 (w8.alloc (.cells jb0.cells.toArray 67)) := (Below.refl _ _).alloc (Nat.le_refl _) _
        have HZ := Lib.hid hZ; have HAL := Lib.hid hal
        clear hZ hal
        go_wp2_with (refine stop_load (ty := 67) rfl ?_)
        refine ⟨wpList_load_at rfl rfl HA.out (by rfl) row67 ?_⟩
        go_wp2_with (refine stop_store (ty := 67) rfl ?_)
        refine ⟨wpList_store_blk (vs := s.cells) rfl rfl HZ.out (by rfl) (by rfl) row67 rfl (jb_one _) fun w9 hJb hg => ?_⟩
        have hb9 := Below.grownB HAL.out hg (Nat.le_refl _) HAL.out.size
        have HC9 := Lib.hid (below_step hC.out hb9)
        have HG9 := Lib.hid (HGJ.out.below hb9)
        have HJb := Lib.hid hJb
        have y6 : w9.cell? ⟨w8.heap.size, 6, none⟩ = some (.string s.key) := jb_at hJb 6 (by omega)
        have y7 : w9.cell? ⟨w8.heap.size, 7, none⟩ = some (.string s.val) := jb_at hJb 7 (by omega)
        have y14 : w9.cell? ⟨w8.heap.size, 14, none⟩ = some (.string s.item.key) := jb_at hJb 14 (by omega)
        have y15 : w9.cell? ⟨w8.heap.size, 15, none⟩ = some (.string s.item.val) := jb_at hJb 15 (by omega)
        have yl := hJb.lt
        clear hb9 hg hJb HZ HAL HA HGJ hC x17 xl
        by_cases g1 : (300 : Int) < (s.key.size : Int)
        · go_wp2
          refine bodyPost_ret (v := .bool true) (by simp [results, Try.results12, go_sem]) rfl ⟨⟨true, rfl, fun h => by simp at h⟩, below_step HB7.out HC9.out⟩
        by_cases g2 : (300 : Int) < (s.val.size : Int)
        · go_wp2
          refine bodyPost_ret (v := .bool true) (by simp [results, Try.results12, go_sem]) rfl ⟨⟨true, rfl, fun h => by simp at h⟩, below_step HB7.out HC9.out⟩
        by_cases g3 : (300 : Int) < (s.item.key.size : Int)
        · go_wp2
          refine bodyPost_ret (v := .bool true) (by simp [results, Try.results12, go_sem]) rfl ⟨⟨true, rfl, fun h => by simp at h⟩, below_step HB7.out HC9.out⟩
        by_cases g4 : (300 : Int) < (s.item.val.size : Int)
        · go_wp2
          refine bodyPost_ret (v := .bool true) (by simp [results, Try.results12, go_sem]) rfl ⟨⟨true, rfl, fun h => by simp at h⟩, below_step HB7.out HC9.out⟩
        go_wp2_with (refine stop_load (ty := 29) rfl ?_)
        refine ⟨wpList_load_at_w (by rfl) rfl HJb.out.at_.owner (by rfl) row29 ?_⟩
        clear y6 y7 y14 y15 yl g1 g2 g3 g4
        go_wp2_with fail
        refine (great21 s.owner w9).mono ?_
        rintro r w10 ⟨⟨b, rfl⟩, hb⟩
        have HC10 := Lib.hid (below_step HC9.out hb); have HJ10 := Lib.hid (HJb.out.later hb); have HG10 := Lib.hid (HG9.out.below hb)
        clear hb HC9 HJb HG9
        cases b
        rotate_left
        · go_wp2
          refine bodyPost_ret (v := .bool true) (by simp [results, Try.results12, go_sem]) rfl ⟨⟨true, rfl, fun h => by simp at h⟩, below_step HB7.out HC10.out⟩
        go_wp2_with (refine stop_load (ty := 29) rfl ?_)
        refine ⟨wpList_load_at_w (by rfl) rfl HJ10.out.at_.back (by rfl) row29 ?_⟩
        go_wp2_with fail
        refine (great21 s.back w10).mono ?_
        rintro r w11 ⟨⟨b, rfl⟩, hb⟩
        have HC11 := Lib.hid (below_step HC10.out hb); have HJ11 := Lib.hid (HJ10.out.later hb); have HG11 := Lib.hid (HG10.out.below hb)
        clear hb HC10 HJ10 HG10
        cases b
        rotate_left
        · go_wp2
          refine bodyPost_ret (v := .bool true) (by simp [results, Try.results12, go_sem]) rfl ⟨⟨true, rfl, fun h => by simp at h⟩, below_step HB7.out HC11.out⟩
        obtain ⟨al, hal⟩ : ∃ q, s.asked.l = q := ⟨_, rfl⟩
        obtain ⟨ao, hao⟩ : ∃ q, s.asked.o = q := ⟨_, rfl⟩
        obtain ⟨ac, hac⟩ : ∃ q, s.asked.c = q := ⟨_, rfl⟩
        have HAV : Hid (s.asked.val = .slice ao al.length ac) := by show _ = _; rw [Sl.val, hal, hao, hac]
        have HAR : Hid (Rws strC w11 ao al.length ac al) := by have h := HG11.out.rows; rw [hal, hao, hac] at h; exact h
        clear hal hao hac HG11
        have y20 : w11.cell? ⟨w8.heap.size, 20, none⟩ = some (.slice ao al.length ac) := by rw [← HAV.out]; exact jb_at HJ11.out 20 (by omega)
        have yl := HJ11.out.lt
        by_cases g5 : (30 : Int) < (al.length : Int)
        · go_wp2
          refine bodyPost_ret (v := .bool true) (by simp [results, Try.results12, go_sem]) rfl ⟨⟨true, rfl, fun h => by simp at h⟩, below_step HB7.out HC11.out⟩
        have HAN : Hid (al.length ≤ 30) := by show _ ≤ _; omega
        go_wp2
        clear g5 y20 yl
        go_loopw [6] (fun i wr => ∃ j : Nat, j ≤ al.length ∧ i = .int .i64 j ∧ wr = w11) (fun i _ => al.length - (intOf i).toNat)
        case atStart => exact ⟨0, by omega, rfl, rfl⟩
        case round =>
          obtain ⟨j, hj, rfl, he⟩ := hrel
          subst he
          obtain ⟨w11, rfl⟩ : ∃ q, q = wr := ⟨_, rfl⟩
          have y20 : w11.cell? ⟨w8.heap.size, 20, none⟩ = some (.slice ao al.length ac) := by rw [← HAV.out]; exact jb_at HJ11.out 20 (by omega)
          have yl := HJ11.out.lt
          by_cases hjl : j < al.length
          · have hj1 : (j : Int) < (al.length : Int) := by omega
            have rj : IntKind.i64.wrap ((j : Int) + 1) = ((j + 1 : Nat) : Int) := by
              have h1 := HAN.out
              rw [IntKind.wrap_i64]; omega
            obtain ⟨b2, p2, he2, hE⟩ := HAR.out.rows.str hjl
            subst he2
            obtain ⟨t, ht⟩ : ∃ s, al[j] = s := ⟨_, rfl⟩
            rw [ht] at hE
            have z0 : w11.cell? ⟨b2, p2 + j, none⟩ = some (.string t) := by have h := hE.get 0 (by simp [strC]); rw [Nat.mul_one] at h; exact h
            have zl := hE.lt
            clear hE ht
            by_cases g6 : (1000 : Int) < (t.size : Int)
            · go_wp2
              refine bodyPost_ret (v := .bool true) (by simp [results, Try.results12, go_sem]) rfl ⟨⟨true, rfl, fun h => by simp at h⟩, below_step HB7.out HC11.out⟩
            go_wp2_with fail
            refine ⟨?_, ?measureA⟩
            rotate_left
            · (simp [intOf]) <;> omega
            first | exact ⟨j + 1, by omega, rfl, trivial⟩ | exact ⟨j + 1, by omega, rfl, rfl⟩ | ((repeat apply Exists.intro); exact ⟨⟨j + 1, by omega, rfl, rfl⟩, rfl⟩)
          obtain rfl : j = al.length := by omega
          go_wp2_with fail
          refine ⟨?_, ?measureB⟩
          rotate_left
          · (simp [intOf]) <;> omega
          have hfin : ∃ k_1 : Nat, k_1 ≤ jl.length ∧ Value.int IntKind.i64 ((k : Int) + 1) = Value.int IntKind.i64 (k_1 : Int) ∧ Hid (Below w7.heap.size w7 w11) := ⟨k + 1, by omega, rfl, HC11⟩
          first | exact hfin | ((repeat apply Exists.intro); exact ⟨hfin, rfl⟩)
      obtain rfl : k = jl.length := by omega
      have HR3 := Lib.hid (HR2.out.below hC.out)
      have HX8 := Lib.hid (HX7.out.later hC.out)
      have HB8 := Lib.hid (below_step HB7.out hC.out)
      obtain ⟨w8, rfl⟩ : ∃ q, q = wr := ⟨_, rfl⟩
      clear hC HJ2 HR2 HX7 HB7
      go_wp2
      clear x17 xl hlt hk
      go_loopw [7] (fun i wr => ∃ k : Nat, k ≤ rl.length ∧ i = .int .i64 k ∧ wr = w8) (fun i _ => rl.length - (intOf i).toNat)
      case atStart => exact ⟨0, by omega, rfl, rfl⟩
      case round =>
        obtain ⟨k, hk, rfl, he⟩ := hrel
        subst he
        obtain ⟨w8, rfl⟩ : ∃ q, q = wr := ⟨_, rfl⟩
        have x21 : w8.cell? ⟨w.heap.size, 21, none⟩ = some (.slice ro rl.length rc) := by have h := nd_at HX8.out 21 (by omega); simp only [← HNN.out] at h; exact h
        have xl := HX8.out.lt
        by_cases hlt : k < rl.length
        · have hi1 : (k : Int) < (rl.length : Int) := by omega
          have rk : IntKind.i64.wrap ((k : Int) + 1) = ((k + 1 : Nat) : Int) := by
            have h1 := HLN.out.2.2
            rw [IntKind.wrap_i64]; omega
          obtain ⟨b1, p1, rfl, hA⟩ := HR3.out.rows.rs hlt
          obtain ⟨s, hs⟩ : ∃ s, rl[k] = s := ⟨_, rfl⟩
          rw [hs] at hA
          have y3 : w8.cell? ⟨b1, p1 + k * 8 + 3, none⟩ = some (.string s.key) := hA.get 3 (by simp [Rs.cells])
          have y4 : w8.cell? ⟨b1, p1 + k * 8 + 4, none⟩ = some (.string s.val) := hA.get 4 (by simp [Rs.cells])
          have zl := hA.lt
          clear hA hs
          by_cases g1 : (300 : Int) < (s.key.size : Int)
          · go_wp2
            refine bodyPost_ret (v := .bool true) (by simp [results, Try.results12, go_sem]) rfl ⟨⟨true, rfl, fun h => by simp at h⟩, HB8.out⟩
          by_cases g2 : (300 : Int) < (s.val.size : Int)
          · go_wp2
            refine bodyPost_ret (v := .bool true) (by simp [results, Try.results12, go_sem]) rfl ⟨⟨true, rfl, fun h => by simp at h⟩, HB8.out⟩
          go_wp2_with fail
          refine ⟨?_, ?measureC⟩
          rotate_left
          · (simp [intOf]) <;> omega
          first | exact ⟨k + 1, by omega, rfl, trivial⟩ | exact ⟨k + 1, by omega, rfl, rfl⟩ | ((repeat apply Exists.intro); exact ⟨⟨k + 1, by omega, rfl, rfl⟩, rfl⟩)
        obtain rfl : k = rl.length := by omega
        go_wp2
        refine bodyPost_ret (v := .bool false) (by simp [results, Try.results12, go_sem]) rfl ⟨⟨false, rfl, fun _ => HFEW.out⟩, HB8.out⟩

def ManyOk (l : List Nd) (e : Ending) : Prop := ∃ b, e = .returned (.bool b) ∧ (b = false → l.length ≤ 10 ∧ ∀ p ∈ l, p.Few)
theorem great7 (l : List Nd) (w : World) (oa : Option Addr) (n c : Nat) (h : RNd w oa n c l) :
    Calls Try.prog 7 #[.slice oa n c] w fun r w' => ManyOk l r ∧ Below w.heap.size w w' := by
  obtain rfl : n = l.length := h.rows.rows.len
  have H := Lib.hid h; clear h
  by_cases hlen : 10 < l.length
  · have hlen' : (10 : Int) < (l.length : Int) := by omega
    clear hlen
    go_enter Try.func7, Try.ntmps7
    go_wp2
    refine bodyPost_ret (v := .bool true) (by simp [results, Try.results7, go_sem]) rfl ⟨⟨true, rfl, fun h => by simp at h⟩, Below.refl _ _⟩
  · have hlen' : ¬ (10 : Int) < (l.length : Int) := by omega
    have HLEN : Hid (l.length ≤ 10) := by show _ ≤ _; omega
    go_enter Try.func7, Try.ntmps7
    go_wp2
    clear hlen hlen'
    go_loopw [3] (fun i wr => ∃ (k : Nat), k ≤ l.length ∧ i = .int .i64 k ∧ Hid (∀ j (h : j < l.length), j < k → l[j].Few) ∧ Hid (Below w.heap.size w wr)) (fun i _ => l.length - (intOf i).toNat)
    case atStart => exact ⟨0, by omega, rfl, Lib.hid (fun j _ h => by omega), by (with_reducible try refine Lib.hid ?_); (repeat (with_reducible first | assumption | exact Below.refl _ _ | apply Below.drew | apply Below.drewN' | apply Below.setCell | apply Below.alloc)) <;> (try simp [length_fillTo, length_turnTo]) <;> (try omega)⟩
    case round =>
      obtain ⟨k, hk, rfl, hS, hbel⟩ := hrel
      by_cases hlt : k < l.length
      · have hi1 : (k : Int) < (l.length : Int) := by omega
        have rk : IntKind.i64.wrap ((k : Int) + 1) = ((k + 1 : Nat) : Int) := by
          have h1 := HLEN.out
          rw [IntKind.wrap_i64]; omega
        have hR := H.out.below hbel.out
        have HG := Lib.hid (hR.good _ (List.getElem_mem hlt))
        obtain ⟨b1, p1, rfl, hA⟩ := hR.rows.rows.nd hlt
        have HN : Hid (l[k].Few → ∀ j (h : j < l.length), j < k + 1 → l[j].Few) := by
          intro ht j hj hjk
          by_cases e : j = k
          · subst e; exact ht
          · exact hS.out j hj (by omega)
        obtain ⟨s, hs⟩ : ∃ s, l[k] = s := ⟨_, rfl⟩
        rw [hs] at hA HG HN
        clear hs hR hS
        go_wp2_with (refine stop_load (ty := 41) rfl ?_)
        refine ⟨wpList_load_at rfl rfl hA (by rfl) row41 ?_⟩
        clear hA
        go_wp2_with fail
        refine (great12 s wr HG.out).mono ?_
        rintro r w1 ⟨⟨b, rfl, hq⟩, hb⟩
        have HB := Lib.hid (below_step hbel.out hb)
        have HQ := Lib.hid hq
        clear hb hbel HG hq
        cases b
        · have HN2 := Lib.hid (HN.out (HQ.out rfl))
          clear HN HQ
          go_wp2
          go_roundw
          case measure => (simp [intOf]) <;> omega
          case rel => exact ⟨k + 1, by omega, rfl, HN2, HB⟩
        · clear HN HQ
          go_wp2
          refine bodyPost_ret (v := .bool true) (by simp [results, Try.results7, go_sem]) rfl ⟨⟨true, rfl, fun h => by simp at h⟩, HB.out⟩
      · obtain rfl : k = l.length := by omega
        have HSA : Hid (∀ p ∈ l, p.Few) := fun p hp => by
          obtain ⟨j, hj, rfl⟩ := List.getElem_of_mem hp
          exact hS.out j hj hj
        clear hS
        go_wp2
        refine bodyPost_ret (v := .bool false) (by simp [results, Try.results7, go_sem]) rfl ⟨⟨false, rfl, fun _ => ⟨HLEN.out, HSA.out⟩⟩, hbel.out⟩
end Go.Proofs.Ythdkgcmoagookaa
