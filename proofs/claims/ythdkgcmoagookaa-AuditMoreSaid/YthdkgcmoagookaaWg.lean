/-
  The document's list of all peers that a node knows; of those that it should not know.
-/
import Derived.Test.YthdkgcmoagookaaWf
namespace Go.Proofs.Ythdkgcmoagookaa
open Go.RowKit Go.Proofs.Ythdkgcmoagookaa.Plan Go.Proofs.Ythdkgcmoagookaa.Eager
set_option maxHeartbeats 4000000
set_option maxRecDepth 20000
set_option linter.unusedVariables false
set_option linter.unusedSimpArgs false

def pe0 : Pe := ⟨⟨⟨#[]⟩, 0, 0, 0, 0, ⟨#[]⟩⟩, 0, 0⟩
def nzD (p : Pe) : Bool := !decide (p = pe0)
theorem neqZ (s : Pe) (w : World) : (binOp .neq 50 (.agg s.cells.toArray) (.agg #[.string ⟨#[]⟩, .int .u64 0, .int .i64 0, .int .i64 0, .int .i64 0, .string ⟨#[]⟩, .int .i64 0, .int .i64 0])).run Try.prog w = .ok (.bool (nzD s)) w := neq50 s pe0 w
theorem guardZ (s : Pe) (k : BinOp) (x y : Operand) (w : World) : (eqGuard k 50 x y (.agg s.cells.toArray) (.agg #[.string ⟨#[]⟩, .int .u64 0, .int .i64 0, .int .i64 0, .int .i64 0, .string ⟨#[]⟩, .int .i64 0, .int .i64 0])).run Try.prog w = .ok () w := guard50 k x y _ _ w
theorem fold_pe (s : Pe) : List.foldl (fun (cs : Array Value) (x : Value × Nat) => cs.setIfInBounds x.snd x.fst) #[Value.string ⟨#[]⟩, .int .u64 0, .int .i64 0, .int .i64 0, .int .i64 0, .string ⟨#[]⟩, .int .i64 0, .int .i64 0] s.cells.zipIdx = s.cells.toArray := by
  simp [Pe.cells, En.cells]
theorem At.fp {w : World} {b o : Nat} {p : Fi} (h : At w b o p.cells) : At w b (o + 1) p.peer.cells := h.sub fun j hj => by
  simp only [Pe.cells, List.length_cons, List.length_nil] at hj
  rcases (by omega : j = 0 ∨ j = 1 ∨ j = 2 ∨ j = 3 ∨ j = 4 ∨ j = 5 ∨ j = 6 ∨ j = 7) with rfl | rfl | rfl | rfl | rfl | rfl | rfl | rfl <;> rfl
theorem cells_8 (p : Pe) : p.cells.length = 8 := rfl
def knownD (n : Nd) : List Pe := n.pred.l ++ n.list.l ++ n.fings.l.map Fi.peer
def allD (n : Nd) : List Pe := (knownD n).filter nzD
theorem filter_step {α : Type} (p : α → Bool) (l : List α) (k : Nat) (h : k < l.length) : (l.take (k + 1)).filter p = (l.take k).filter p ++ (if p l[k] then [l[k]] else []) := by
  rw [List.take_succ_eq_append_getElem h, List.filter_append]
  cases hp : p l[k] <;> simp [hp]
theorem filter_len {α : Type} (p : α → Bool) (l : List α) (k : Nat) : ((l.take k).filter p).length ≤ l.length :=
  Nat.le_trans (List.length_filter_le _ _) (by simp; omega)
/-- peers that are handed back -/
def Peers (w : World) (A : List Pe) (e : Ending) (w' : World) : Prop := ∃ v, e = .returned v ∧ Own w' w.heap.size 50 8 v A.length (A.flatMap Pe.cells) ∧ Below w.heap.size w w'
structure Nd.Few (n : Nd) : Prop where
  pred : n.pred.l.length ≤ 40
  list : n.list.l.length ≤ 40
  fings : n.fings.l.length ≤ 70

theorem refAll16 (n : Nd) (w : World) (hn : n.Good w) (hf : n.Few) : Calls Try.prog 16 #[.agg n.cells.toArray] w fun r w' => Peers w (allD n) r w' := by
  have hal : Below w.heap.size w (w.alloc (.cells n.cells.toArray 41)) := (Below.refl _ _).alloc (Nat.le_refl _) _
  have hX : Blk (w.alloc (.cells n.cells.toArray 41)) w.heap.size n.cells := Blk.new' rfl
  have HB := Lib.hid hal; have HX := Lib.hid hX; have HN := Lib.hid hn; have HF := Lib.hid hf
  have HO : Hid (Own (w.alloc (.cells n.cells.toArray 41)) (w.heap.size + 1) 50 8 (.slice none 0 0) ([] : List Pe).length (([] : List Pe).flatMap Pe.cells)) := Own.nil _ _ _ _
  clear hal hX hn hf
  go_enter Try.func16, Try.ntmps16
  go_wp2
  have HA0 : Hid (([] : List Pe).length ≤ 0) := by show _ ≤ _; simp
  obtain ⟨lst, hlst⟩ : ∃ q, n.pred.l = q := ⟨_, rfl⟩
  obtain ⟨so, hso⟩ : ∃ q, n.pred.o = q := ⟨_, rfl⟩
  obtain ⟨sc, hsc⟩ : ∃ q, n.pred.c = q := ⟨_, rfl⟩
  have HE : Hid (n.pred.val = .slice so lst.length sc) := by show _ = _; rw [Sl.val, hlst, hso, hsc]
  have H := HN.out.pred.rows
  have HLEN := HF.out.pred
  rw [hlst, hso, hsc] at H
  rw [hlst] at HLEN
  have H := Lib.hid H; have HLST := Lib.hid hlst
  replace HLEN := Lib.hid HLEN
  clear hlst hso hsc
  go_loopw [3, 4] (fun v i wr => ∃ k : Nat, k ≤ lst.length ∧ i = .int .i64 k ∧ Hid (Own wr (w.heap.size + 1) 50 8 v ((lst.take k).filter nzD).length (((lst.take k).filter nzD).flatMap Pe.cells)) ∧ Hid (Blk wr w.heap.size n.cells) ∧ Hid (Below w.heap.size w wr)) (fun _ i _ => lst.length - (intOf i).toNat)
  case atStart => exact ⟨0, by omega, rfl, Lib.hid (by simpa using HO.out), HX, HB⟩
  case round =>
    clear HO HX HB
    obtain ⟨k, hk, rfl, hO, hY, hB⟩ := hrel
    have x0 : wr.cell? ⟨w.heap.size, 11, none⟩ = some (.slice so lst.length sc) := by rw [← HE.out]; exact nd_at hY.out 11 (by omega)
    have hl2 := hY.out.lt
    by_cases hlt : k < lst.length
    · have hi1 : (k : Int) < (lst.length : Int) := by omega
      have rk : IntKind.i64.wrap ((k : Int) + 1) = ((k + 1 : Nat) : Int) := by
        have h1 := HLEN.out
        rw [IntKind.wrap_i64]; omega
      obtain ⟨b1, p1, rfl, hA⟩ := (H.out.rows.below hB.out).pe hlt
      have HT : Hid ((lst.take (k + 1)).filter nzD = (lst.take k).filter nzD ++ (if nzD lst[k] then [lst[k]] else [])) := filter_step nzD _ k hlt
      have HK : Hid (((lst.take k).filter nzD).length ≤ 200) := by
        have h1 := filter_len nzD (lst) k
        have h2 := HLEN.out
        have h3 := HA0.out
        show _ ≤ _
        (try simp only [List.length_append, List.length_map] at h1 h3 ⊢)
        omega
      obtain ⟨s, hs⟩ : ∃ s, lst[k] = s := ⟨_, rfl⟩
      rw [hs] at hA HT
      have HA := Lib.hid hA
      clear hs hA
      obtain ⟨L, hL⟩ : ∃ L, (lst.take k).filter nzD = L := ⟨_, rfl⟩
      have HL : Hid (∀ X, ((lst.take (k + 1)).filter nzD) = L ++ X ↔ ((lst.take (k + 1)).filter nzD = (lst.take k).filter nzD ++ X)) := by
        intro X; rw [← hL]
      rw [hL] at hO HK
      clear hL
      cases hz : nzD s
      · have hq : ∀ W, _ = _ := neqZ s
        have hg := guardZ s
        have HT2 := Lib.hid ((HL.out []).2 (by rw [HT.out, hz]; rfl))
        rw [hz] at hq
        clear HT HL
        go_wp2_with (refine stop_load (ty := 50) rfl ?_)
        refine ⟨wpList_load_at rfl rfl HA.out (by rfl) row50 ?_⟩
        go_wp2_with fail
        have hfin : ∃ k_1 : Nat, k_1 ≤ lst.length ∧ Value.int IntKind.i64 ((k : Int) + 1) = Value.int IntKind.i64 (k_1 : Int) ∧ Hid (Own wr (w.heap.size + 1) 50 8 u3 ((lst.take k_1).filter nzD).length (((lst.take k_1).filter nzD).flatMap Pe.cells)) ∧ Hid (Blk wr w.heap.size n.cells) ∧ Hid (Below w.heap.size w wr) := ⟨k + 1, by omega, rfl, Lib.hid (by rw [HT2.out]; simpa using hO.out), hY, hB⟩
        go_roundw
        case measure => (simp [intOf]) <;> omega
        case rel => exact hfin
      · have hq : ∀ W, _ = _ := neqZ s
        have hg := guardZ s
        have HT2 := Lib.hid ((HL.out [s]).2 (by rw [HT.out, hz]; rfl))
        rw [hz] at hq
        clear HT HL
        go_wp2_with (refine stop_load (ty := 50) rfl ?_)
        refine ⟨wpList_load_at rfl rfl HA.out (by rfl) row50 ?_⟩
        go_wp2_with (refine stop_load (ty := 50) rfl ?_)
        refine ⟨wpList_load_at rfl rfl HA.out (by rfl) row50 ?_⟩
        obtain ⟨q, hqs⟩ : ∃ q, s = q := ⟨_, rfl⟩
        rw [hqs] at HT2 ⊢
        have hal2 : Below wr.heap.size wr (wr.alloc (.cells q.cells.toArray 50)) := (Below.refl _ _).alloc (Nat.le_refl _) _
        have hN3 : Blk (wr.alloc (.cells q.cells.toArray 50)) wr.heap.size q.cells := Blk.new' rfl
        have HO5 := Lib.hid (hO.out.later hal2); have HB5 := Lib.hid (below_step hB.out hal2); have HN3 := Lib.hid hN3; have HY5 := Lib.hid (hY.out.later hal2)
        have hlc := cells_8 q
        clear hal2 hN3 hO hB hY hqs hq hg hz HA x0 hl2
        go_wp2_with (refine stop_append rfl ?_)
        rw [fold_pe q]
        clear hlc
        have hlen := HK.out
        have hsz := HY5.out.lt
        refine ⟨wpList_app el32 rfl rfl (by rfl) HO5.out (by rfl) (m := 1) rfl HN3.out.cells (pe_one q) (by simp [maxLen]; omega) (by omega) hsz ?_⟩
        intro v6 W6 hO6 hg6
        have hb6 := HO5.out.below hg6 HB5.out (Nat.le_succ _) hsz
        have hY6 := HO5.out.blkKept hg6 HY5.out (Nat.lt_succ_self _)
        have HO6 := Lib.hid hO6; have HB6 := Lib.hid hb6; have HY6 := Lib.hid hY6
        clear hO6 hg6 hb6 hlen HO5 HB5 HN3 HY5 hY6 hsz
        go_wp2_with fail
        have hfin : ∃ k_1 : Nat, k_1 ≤ lst.length ∧ Value.int IntKind.i64 ((k : Int) + 1) = Value.int IntKind.i64 (k_1 : Int) ∧ Hid (Own W6 (w.heap.size + 1) 50 8 v6 ((lst.take k_1).filter nzD).length (((lst.take k_1).filter nzD).flatMap Pe.cells)) ∧ Hid (Blk W6 w.heap.size n.cells) ∧ Hid (Below w.heap.size w W6) := ⟨k + 1, by omega, rfl, Lib.hid (by rw [HT2.out]; simpa using HO6.out), HY6, HB6⟩
        go_roundw
        case measure => (simp [intOf]) <;> omega
        case rel => exact hfin
    · obtain rfl : k = lst.length := by omega
      have HO : Hid (Own wr (w.heap.size + 1) 50 8 u3 ((lst).filter nzD).length (((lst).filter nzD).flatMap Pe.cells)) := by have h := hO.out; rw [List.take_length] at h; exact h
      have HX := hY; have HB := hB
      rw [HLST.out.symm] at HO
      clear hO hY hB
      go_wp2
      clear x0 hl2
      clear HLST HE H HLEN HA0
      obtain ⟨w0, rfl⟩ : ∃ q, q = wr := ⟨_, rfl⟩
      have HA0 : Hid ((n.pred.l.filter nzD).length ≤ 40) := by
        show _ ≤ _
        have h1 := HF.out.pred; have h2 := HF.out.list
        have h3 := List.length_filter_le nzD n.pred.l; have h4 := List.length_filter_le nzD n.list.l
        (try simp only [List.length_append, List.length_nil])
        omega
      obtain ⟨lst, hlst⟩ : ∃ q, n.list.l = q := ⟨_, rfl⟩
      obtain ⟨so, hso⟩ : ∃ q, n.list.o = q := ⟨_, rfl⟩
      obtain ⟨sc, hsc⟩ : ∃ q, n.list.c = q := ⟨_, rfl⟩
      have HE : Hid (n.list.val = .slice so lst.length sc) := by show _ = _; rw [Sl.val, hlst, hso, hsc]
      have H := HN.out.list.rows
      have HLEN := HF.out.list
      rw [hlst, hso, hsc] at H
      rw [hlst] at HLEN
      have H := Lib.hid H; have HLST := Lib.hid hlst
      replace HLEN := Lib.hid HLEN
      clear hlst hso hsc
      go_loopw [3, 5] (fun v i wr => ∃ k : Nat, k ≤ lst.length ∧ i = .int .i64 k ∧ Hid (Own wr (w.heap.size + 1) 50 8 v (n.pred.l.filter nzD ++ (lst.take k).filter nzD).length ((n.pred.l.filter nzD ++ (lst.take k).filter nzD).flatMap Pe.cells)) ∧ Hid (Blk wr w.heap.size n.cells) ∧ Hid (Below w.heap.size w wr)) (fun _ i _ => lst.length - (intOf i).toNat)
      case atStart => exact ⟨0, by omega, rfl, Lib.hid (by simpa using HO.out), HX, HB⟩
      case round =>
        clear HO HX HB
        obtain ⟨k, hk, rfl, hO, hY, hB⟩ := hrel
        have x0 : wr.cell? ⟨w.heap.size, 12, none⟩ = some (.slice so lst.length sc) := by rw [← HE.out]; exact nd_at hY.out 12 (by omega)
        have hl2 := hY.out.lt
        by_cases hlt : k < lst.length
        · have hi1 : (k : Int) < (lst.length : Int) := by omega
          have rk : IntKind.i64.wrap ((k : Int) + 1) = ((k + 1 : Nat) : Int) := by
            have h1 := HLEN.out
            rw [IntKind.wrap_i64]; omega
          obtain ⟨b1, p1, rfl, hA⟩ := (H.out.rows.below hB.out).pe hlt
          have HT : Hid ((lst.take (k + 1)).filter nzD = (lst.take k).filter nzD ++ (if nzD lst[k] then [lst[k]] else [])) := filter_step nzD _ k hlt
          have HK : Hid ((n.pred.l.filter nzD ++ (lst.take k).filter nzD).length ≤ 200) := by
            have h1 := filter_len nzD (lst) k
            have h2 := HLEN.out
            have h3 := HA0.out
            show _ ≤ _
            (try simp only [List.length_append, List.length_map] at h1 h3 ⊢)
            omega
          obtain ⟨s, hs⟩ : ∃ s, lst[k] = s := ⟨_, rfl⟩
          rw [hs] at hA HT
          have HA := Lib.hid hA
          clear hs hA
          obtain ⟨L, hL⟩ : ∃ L, n.pred.l.filter nzD ++ (lst.take k).filter nzD = L := ⟨_, rfl⟩
          have HL : Hid (∀ X, (n.pred.l.filter nzD ++ (lst.take (k + 1)).filter nzD) = L ++ X ↔ ((lst.take (k + 1)).filter nzD = (lst.take k).filter nzD ++ X)) := by
            intro X; rw [← hL]; simp only [List.append_assoc, List.append_cancel_left_eq]
          rw [hL] at hO HK
          clear hL
          cases hz : nzD s
          · have hq : ∀ W, _ = _ := neqZ s
            have hg := guardZ s
            have HT2 := Lib.hid ((HL.out []).2 (by rw [HT.out, hz]; rfl))
            rw [hz] at hq
            clear HT HL
            go_wp2_with (refine stop_load (ty := 50) rfl ?_)
            refine ⟨wpList_load_at rfl rfl HA.out (by rfl) row50 ?_⟩
            go_wp2_with fail
            have hfin : ∃ k_1 : Nat, k_1 ≤ lst.length ∧ Value.int IntKind.i64 ((k : Int) + 1) = Value.int IntKind.i64 (k_1 : Int) ∧ Hid (Own wr (w.heap.size + 1) 50 8 u3 (n.pred.l.filter nzD ++ (lst.take k_1).filter nzD).length ((n.pred.l.filter nzD ++ (lst.take k_1).filter nzD).flatMap Pe.cells)) ∧ Hid (Blk wr w.heap.size n.cells) ∧ Hid (Below w.heap.size w wr) := ⟨k + 1, by omega, rfl, Lib.hid (by rw [HT2.out]; simpa using hO.out), hY, hB⟩
            refine ⟨?_, ?measure5a⟩
            rotate_left
            · (simp [intOf]) <;> omega
            first | exact hfin | ((repeat apply Exists.intro); exact ⟨hfin, rfl⟩)
          · have hq : ∀ W, _ = _ := neqZ s
            have hg := guardZ s
            have HT2 := Lib.hid ((HL.out [s]).2 (by rw [HT.out, hz]; rfl))
            rw [hz] at hq
            clear HT HL
            go_wp2_with (refine stop_load (ty := 50) rfl ?_)
            refine ⟨wpList_load_at rfl rfl HA.out (by rfl) row50 ?_⟩
            go_wp2_with (refine stop_load (ty := 50) rfl ?_)
            refine ⟨wpList_load_at rfl rfl HA.out (by rfl) row50 ?_⟩
            obtain ⟨q, hqs⟩ : ∃ q, s = q := ⟨_, rfl⟩
            rw [hqs] at HT2 ⊢
            have hal2 : Below wr.heap.size wr (wr.alloc (.cells q.cells.toArray 50)) := (Below.refl _ _).alloc (Nat.le_refl _) _
            have hN3 : Blk (wr.alloc (.cells q.cells.toArray 50)) wr.heap.size q.cells := Blk.new' rfl
            have HO5 := Lib.hid (hO.out.later hal2); have HB5 := Lib.hid (below_step hB.out hal2); have HN3 := Lib.hid hN3; have HY5 := Lib.hid (hY.out.later hal2)
            have hlc := cells_8 q
            clear hal2 hN3 hO hB hY hqs hq hg hz HA x0 hl2
            go_wp2_with (refine stop_append rfl ?_)
            rw [fold_pe q]
            clear hlc
            have hlen := HK.out
            have hsz := HY5.out.lt
            refine ⟨wpList_app el32 rfl rfl (by rfl) HO5.out (by rfl) (m := 1) rfl HN3.out.cells (pe_one q) (by simp [maxLen]; omega) (by omega) hsz ?_⟩
            intro v6 W6 hO6 hg6
            have hb6 := HO5.out.below hg6 HB5.out (Nat.le_succ _) hsz
            have hY6 := HO5.out.blkKept hg6 HY5.out (Nat.lt_succ_self _)
            have HO6 := Lib.hid hO6; have HB6 := Lib.hid hb6; have HY6 := Lib.hid hY6
            clear hO6 hg6 hb6 hlen HO5 HB5 HN3 HY5 hY6 hsz
            go_wp2_with fail
            have hfin : ∃ k_1 : Nat, k_1 ≤ lst.length ∧ Value.int IntKind.i64 ((k : Int) + 1) = Value.int IntKind.i64 (k_1 : Int) ∧ Hid (Own W6 (w.heap.size + 1) 50 8 v6 (n.pred.l.filter nzD ++ (lst.take k_1).filter nzD).length ((n.pred.l.filter nzD ++ (lst.take k_1).filter nzD).flatMap Pe.cells)) ∧ Hid (Blk W6 w.heap.size n.cells) ∧ Hid (Below w.heap.size w W6) := ⟨k + 1, by omega, rfl, Lib.hid (by rw [HT2.out]; simpa using HO6.out), HY6, HB6⟩
            refine ⟨?_, ?measure5⟩
            rotate_left
            · (simp [intOf]) <;> omega
            first | exact hfin | ((repeat apply Exists.intro); exact ⟨hfin, rfl⟩)
        · obtain rfl : k = lst.length := by omega
          have HO : Hid (Own wr (w.heap.size + 1) 50 8 u3 (n.pred.l.filter nzD ++ (lst).filter nzD).length ((n.pred.l.filter nzD ++ (lst).filter nzD).flatMap Pe.cells)) := by have h := hO.out; rw [List.take_length] at h; exact h
          have HX := hY; have HB := hB
          rw [HLST.out.symm] at HO
          clear hO hY hB
          go_wp2
          clear x0 hl2
          clear HLST HE H HLEN HA0
          obtain ⟨w0, rfl⟩ : ∃ q, q = wr := ⟨_, rfl⟩
          have HA0 : Hid ((n.pred.l.filter nzD ++ n.list.l.filter nzD).length ≤ 80) := by
            show _ ≤ _
            have h1 := HF.out.pred; have h2 := HF.out.list
            have h3 := List.length_filter_le nzD n.pred.l; have h4 := List.length_filter_le nzD n.list.l
            (try simp only [List.length_append, List.length_nil])
            omega
          obtain ⟨lst, hlst⟩ : ∃ q, n.fings.l = q := ⟨_, rfl⟩
          obtain ⟨so, hso⟩ : ∃ q, n.fings.o = q := ⟨_, rfl⟩
          obtain ⟨sc, hsc⟩ : ∃ q, n.fings.c = q := ⟨_, rfl⟩
          have HE : Hid (n.fings.val = .slice so lst.length sc) := by show _ = _; rw [Sl.val, hlst, hso, hsc]
          have H := HN.out.fings.rows
          have HLEN := HF.out.fings
          rw [hlst, hso, hsc] at H
          rw [hlst] at HLEN
          have H := Lib.hid H; have HLST := Lib.hid hlst
          replace HLEN := Lib.hid HLEN
          clear hlst hso hsc
          go_loopw [3, 6] (fun v i wr => ∃ k : Nat, k ≤ lst.length ∧ i = .int .i64 k ∧ Hid (Own wr (w.heap.size + 1) 50 8 v ((n.pred.l.filter nzD ++ n.list.l.filter nzD) ++ ((lst.map Fi.peer).take k).filter nzD).length (((n.pred.l.filter nzD ++ n.list.l.filter nzD) ++ ((lst.map Fi.peer).take k).filter nzD).flatMap Pe.cells)) ∧ Hid (Blk wr w.heap.size n.cells) ∧ Hid (Below w.heap.size w wr)) (fun _ i _ => lst.length - (intOf i).toNat)
          case atStart => exact ⟨0, by omega, rfl, Lib.hid (by simpa using HO.out), HX, HB⟩
          case round =>
            clear HO HX HB
            obtain ⟨k, hk, rfl, hO, hY, hB⟩ := hrel
            have x0 : wr.cell? ⟨w.heap.size, 13, none⟩ = some (.slice so lst.length sc) := by rw [← HE.out]; exact nd_at hY.out 13 (by omega)
            have hl2 := hY.out.lt
            by_cases hlt : k < lst.length
            · have hi1 : (k : Int) < (lst.length : Int) := by omega
              have rk : IntKind.i64.wrap ((k : Int) + 1) = ((k + 1 : Nat) : Int) := by
                have h1 := HLEN.out
                rw [IntKind.wrap_i64]; omega
              obtain ⟨b1, p1, rfl, hA⟩ := (H.out.rows.below hB.out).fi hlt
              have HT : Hid (((lst.map Fi.peer).take (k + 1)).filter nzD = ((lst.map Fi.peer).take k).filter nzD ++ (if nzD lst[k].peer then [lst[k].peer] else [])) := by have := filter_step nzD (lst.map Fi.peer) k (by simpa using hlt); rw [List.getElem_map] at this; exact this
              have HK : Hid (((n.pred.l.filter nzD ++ n.list.l.filter nzD) ++ ((lst.map Fi.peer).take k).filter nzD).length ≤ 200) := by
                have h1 := filter_len nzD ((lst.map Fi.peer)) k
                have h2 := HLEN.out
                have h3 := HA0.out
                show _ ≤ _
                (try simp only [List.length_append, List.length_map] at h1 h3 ⊢)
                omega
              obtain ⟨s, hs⟩ : ∃ s, lst[k] = s := ⟨_, rfl⟩
              rw [hs] at hA HT
              have HA := Lib.hid hA
              clear hs hA
              obtain ⟨L, hL⟩ : ∃ L, (n.pred.l.filter nzD ++ n.list.l.filter nzD) ++ ((lst.map Fi.peer).take k).filter nzD = L := ⟨_, rfl⟩
              have HL : Hid (∀ X, ((n.pred.l.filter nzD ++ n.list.l.filter nzD) ++ ((lst.map Fi.peer).take (k + 1)).filter nzD) = L ++ X ↔ (((lst.map Fi.peer).take (k + 1)).filter nzD = ((lst.map Fi.peer).take k).filter nzD ++ X)) := by
                intro X; rw [← hL]; simp only [List.append_assoc, List.append_cancel_left_eq]
              rw [hL] at hO HK
              clear hL
              cases hz : nzD s.peer
              · have hq : ∀ W, _ = _ := neqZ s.peer
                have hg := guardZ s.peer
                have HT2 := Lib.hid ((HL.out []).2 (by rw [HT.out, hz]; rfl))
                rw [hz] at hq
                clear HT HL
                go_wp2_with (refine stop_load (ty := 50) rfl ?_)
                refine ⟨wpList_load_at rfl rfl HA.out.fp (by rfl) row50 ?_⟩
                go_wp2_with fail
                have hfin : ∃ k_1 : Nat, k_1 ≤ lst.length ∧ Value.int IntKind.i64 ((k : Int) + 1) = Value.int IntKind.i64 (k_1 : Int) ∧ Hid (Own wr (w.heap.size + 1) 50 8 u3 ((n.pred.l.filter nzD ++ n.list.l.filter nzD) ++ ((lst.map Fi.peer).take k_1).filter nzD).length (((n.pred.l.filter nzD ++ n.list.l.filter nzD) ++ ((lst.map Fi.peer).take k_1).filter nzD).flatMap Pe.cells)) ∧ Hid (Blk wr w.heap.size n.cells) ∧ Hid (Below w.heap.size w wr) := ⟨k + 1, by omega, rfl, Lib.hid (by rw [HT2.out]; simpa using hO.out), hY, hB⟩
                refine ⟨?_, ?measure6a⟩
                rotate_left
                · (simp [intOf]) <;> omega
                first | exact hfin | ((repeat apply Exists.intro); exact ⟨hfin, rfl⟩)
              · have hq : ∀ W, _ = _ := neqZ s.peer
                have hg := guardZ s.peer
                have HT2 := Lib.hid ((HL.out [s.peer]).2 (by rw [HT.out, hz]; rfl))
                rw [hz] at hq
                clear HT HL
                go_wp2_with (refine stop_load (ty := 50) rfl ?_)
                refine ⟨wpList_load_at rfl rfl HA.out.fp (by rfl) row50 ?_⟩
                go_wp2_with (refine stop_load (ty := 50) rfl ?_)
                refine ⟨wpList_load_at rfl rfl HA.out.fp (by rfl) row50 ?_⟩
                obtain ⟨q, hqs⟩ : ∃ q, s.peer = q := ⟨_, rfl⟩
                rw [hqs] at HT2 ⊢
                have hal2 : Below wr.heap.size wr (wr.alloc (.cells q.cells.toArray 50)) := (Below.refl _ _).alloc (Nat.le_refl _) _
                have hN3 : Blk (wr.alloc (.cells q.cells.toArray 50)) wr.heap.size q.cells := Blk.new' rfl
                have HO5 := Lib.hid (hO.out.later hal2); have HB5 := Lib.hid (below_step hB.out hal2); have HN3 := Lib.hid hN3; have HY5 := Lib.hid (hY.out.later hal2)
                have hlc := cells_8 q
                clear hal2 hN3 hO hB hY hqs hq hg hz HA x0 hl2
                go_wp2_with (refine stop_append rfl ?_)
                rw [fold_pe q]
                clear hlc
                have hlen := HK.out
                have hsz := HY5.out.lt
                refine ⟨wpList_app el32 rfl rfl (by rfl) HO5.out (by rfl) (m := 1) rfl HN3.out.cells (pe_one q) (by simp [maxLen]; omega) (by omega) hsz ?_⟩
                intro v6 W6 hO6 hg6
                have hb6 := HO5.out.below hg6 HB5.out (Nat.le_succ _) hsz
                have hY6 := HO5.out.blkKept hg6 HY5.out (Nat.lt_succ_self _)
                have HO6 := Lib.hid hO6; have HB6 := Lib.hid hb6; have HY6 := Lib.hid hY6
                clear hO6 hg6 hb6 hlen HO5 HB5 HN3 HY5 hY6 hsz
                go_wp2_with fail
                have hfin : ∃ k_1 : Nat, k_1 ≤ lst.length ∧ Value.int IntKind.i64 ((k : Int) + 1) = Value.int IntKind.i64 (k_1 : Int) ∧ Hid (Own W6 (w.heap.size + 1) 50 8 v6 ((n.pred.l.filter nzD ++ n.list.l.filter nzD) ++ ((lst.map Fi.peer).take k_1).filter nzD).length (((n.pred.l.filter nzD ++ n.list.l.filter nzD) ++ ((lst.map Fi.peer).take k_1).filter nzD).flatMap Pe.cells)) ∧ Hid (Blk W6 w.heap.size n.cells) ∧ Hid (Below w.heap.size w W6) := ⟨k + 1, by omega, rfl, Lib.hid (by rw [HT2.out]; simpa using HO6.out), HY6, HB6⟩
                refine ⟨?_, ?measure6⟩
                rotate_left
                · (simp [intOf]) <;> omega
                first | exact hfin | ((repeat apply Exists.intro); exact ⟨hfin, rfl⟩)
            · obtain rfl : k = lst.length := by omega
              have HO : Hid (Own wr (w.heap.size + 1) 50 8 u3 ((n.pred.l.filter nzD ++ n.list.l.filter nzD) ++ ((lst.map Fi.peer)).filter nzD).length (((n.pred.l.filter nzD ++ n.list.l.filter nzD) ++ ((lst.map Fi.peer)).filter nzD).flatMap Pe.cells)) := by have h := hO.out; rw [List.take_of_length_le (by simp)] at h; exact h
              have HX := hY; have HB := hB
              rw [HLST.out.symm] at HO
              clear hO hY hB
              go_wp2
              clear x0 hl2
              have HE2 : Hid (allD n = n.pred.l.filter nzD ++ n.list.l.filter nzD ++ (n.fings.l.map Fi.peer).filter nzD) := by show _ = _; simp [allD, knownD, List.filter_append]
              refine bodyPost_ret (v := u3) (by simp [results, Try.results16, go_sem]) rfl ⟨u3, rfl, by rw [HE2.out]; exact HO.out.mono (Nat.le_succ _), HB.out⟩
end Go.Proofs.Ythdkgcmoagookaa
