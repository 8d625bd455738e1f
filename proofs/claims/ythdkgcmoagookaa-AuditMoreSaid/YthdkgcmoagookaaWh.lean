/-
  The document's list of those that a node should not know; whether no two entries of unlike names have one identifier.
-/
import Derived.Test.YthdkgcmoagookaaWg
namespace Go.Proofs.Ythdkgcmoagookaa
open Go.RowKit Go.Proofs.Ythdkgcmoagookaa.Plan Go.Proofs.Ythdkgcmoagookaa.Eager
set_option maxHeartbeats 4000000
set_option maxRecDepth 20000
set_option linter.unusedVariables false
set_option linter.unusedSimpArgs false

def badOf (iss : List En) (p : Pe) : Bool := !holdsD p || !inD iss p.ent
def badD (n : Nd) (iss : List En) : List Pe := (allD n).filter (badOf iss)
theorem all_len (n : Nd) (hf : n.Few) : (allD n).length ≤ 150 := by
  unfold allD
  have h1 := List.length_filter_le nzD (knownD n)
  have h2 := hf.pred; have h3 := hf.list; have h4 := hf.fings
  have h5 : (knownD n).length = n.pred.l.length + n.list.l.length + n.fings.l.length := by simp [knownD]; omega
  omega

theorem refBad13 (n : Nd) (iss : List En) (w : World) (oa : Option Addr) (m c : Nat) (hn : n.Good w) (hf : n.Few) (h : REn w oa m c iss) :
    Calls Try.prog 13 #[.agg n.cells.toArray, .slice oa m c] w fun r w' => Peers w (badD n iss) r w' := by
  have hal : Below w.heap.size w (w.alloc (.cells n.cells.toArray 41)) := (Below.refl _ _).alloc (Nat.le_refl _) _
  have hX : Blk (w.alloc (.cells n.cells.toArray 41)) w.heap.size n.cells := Blk.new' rfl
  have HB := Lib.hid hal; have HX := Lib.hid hX; have HN := Lib.hid (hn.below hal); have HF := Lib.hid hf; have HI := Lib.hid (h.below hal)
  clear hal hX hn hf h
  go_enter Try.func13, Try.ntmps13
  go_wp2_with (refine stop_load (ty := 41) rfl ?_)
  refine ⟨wpList_load_blk rfl rfl HX.out (by rfl) row41 ?_⟩
  go_wp2_with fail
  refine (refAll16 n _ HN.out HF.out).mono ?_
  rintro r w1 ⟨v, rfl, hO, hb⟩
  have HD : Hid (badD n iss = (allD n).filter (badOf iss)) := rfl
  have HLEN := Lib.hid (all_len n HF.out)
  obtain ⟨lst, hlst⟩ : ∃ q, allD n = q := ⟨_, rfl⟩
  rw [hlst] at hO HD HLEN
  obtain ⟨so, sc, rfl, hR⟩ := hO.rws rfl
  have HR := Lib.hid hR
  have HB1 := Lib.hid (below_step HB.out hb)
  have HI1 := Lib.hid (HI.out.below hb)
  have H0 : Hid (w.heap.size ≤ w1.heap.size) := by have := HB1.out.size; show _ ≤ _; omega
  have HO : Hid (Own w1 w1.heap.size 50 8 (.slice none 0 0) ([] : List Pe).length (([] : List Pe).flatMap Pe.cells)) := Own.nil _ _ _ _
  clear hlst hO hR hb HB HX HN HF HI
  go_wp2
  go_loopw [6, 7] (fun v i wr => ∃ k : Nat, k ≤ lst.length ∧ i = .int .i64 k ∧ Hid (Own wr w1.heap.size 50 8 v ((lst.take k).filter (badOf iss)).length (((lst.take k).filter (badOf iss)).flatMap Pe.cells)) ∧ Hid (Below w1.heap.size w1 wr)) (fun _ i _ => lst.length - (intOf i).toNat)
  case atStart => exact ⟨0, by omega, rfl, HO, Lib.hid (Below.refl _ _)⟩
  case round =>
    clear HO
    obtain ⟨k, hk, rfl, hO, hB⟩ := hrel
    by_cases hlt : k < lst.length
    · have hi1 : (k : Int) < (lst.length : Int) := by omega
      have rk : IntKind.i64.wrap ((k : Int) + 1) = ((k + 1 : Nat) : Int) := by
        have h1 := HLEN.out
        rw [IntKind.wrap_i64]; omega
      obtain ⟨b1, p1, rfl, hA⟩ := (HR.out.rows.below hB.out).pe hlt
      have HT : Hid ((lst.take (k + 1)).filter (badOf iss) = (lst.take k).filter (badOf iss) ++ (if badOf iss lst[k] then [lst[k]] else [])) := filter_step _ _ k hlt
      have HK : Hid (((lst.take k).filter (badOf iss)).length ≤ 150) := Nat.le_trans (filter_len _ _ _) HLEN.out
      obtain ⟨s, hs⟩ : ∃ s, lst[k] = s := ⟨_, rfl⟩
      rw [hs] at hA HT
      have HA := Lib.hid hA
      have HV : Hid (badOf iss s = (!holdsD s || !inD iss s.ent)) := rfl
      clear hs hA
      obtain ⟨L, hL⟩ : ∃ L, (lst.take k).filter (badOf iss) = L := ⟨_, rfl⟩
      rw [hL] at hO HK HT
      clear hL
      go_wp2_with (refine stop_load (ty := 50) rfl ?_)
      refine ⟨wpList_load_at rfl rfl HA.out (by rfl) row50 ?_⟩
      go_wp2_with fail
      refine (refHolds27 s wr).mono ?_
      rintro r w2 ⟨rfl, hb⟩
      have HA2 := Lib.hid (HA.out.later hb); have HO2 := Lib.hid (hO.out.later hb); have HB2 := Lib.hid (below_step hB.out hb)
      clear hb hO hB HA
      have key : ∀ (W : World), Hid (At W b1 (p1 + k * 8) s.cells) → Hid (Own W w1.heap.size 50 8 u6 L.length (L.flatMap Pe.cells)) → Hid (Below w1.heap.size w1 W) → True := fun _ _ _ _ => trivial
      clear key
      cases hh : holdsD s
      · have hbad : badOf iss s = true := by rw [HV.out, hh]; rfl
        rw [hbad] at HT
        clear HV hh hbad
        go_wp2_with (refine stop_load (ty := 50) rfl ?_)
        refine ⟨wpList_load_at rfl rfl HA2.out (by rfl) row50 ?_⟩
        have hal2 : Below w2.heap.size w2 (w2.alloc (.cells s.cells.toArray 50)) := (Below.refl _ _).alloc (Nat.le_refl _) _
        have hN3 : Blk (w2.alloc (.cells s.cells.toArray 50)) w2.heap.size s.cells := Blk.new' rfl
        have HO5 := Lib.hid (HO2.out.later hal2); have HB5 := Lib.hid (below_step HB2.out hal2); have HN3 := Lib.hid hN3
        have hlc := cells_8 s
        clear hal2 hN3 HO2 HB2 HA2
        go_wp2_with (refine stop_append rfl ?_)
        rw [fold_pe s]
        clear hlc
        have hlen := HK.out
        refine ⟨wpList_app el32 rfl rfl (by rfl) HO5.out (by rfl) (m := 1) rfl HN3.out.cells (pe_one s) (by simp [maxLen]; omega) (by omega) HB5.out.size ?_⟩
        intro v6 W6 hO6 hg6
        have hb6 := HO5.out.below hg6 HB5.out (Nat.le_refl _) HB5.out.size
        have HO6 := Lib.hid hO6; have HB6 := Lib.hid hb6
        clear hO6 hg6 hb6 hlen HO5 HB5 HN3
        go_wp2_with fail
        go_roundw
        case measure => (simp [intOf]) <;> omega
        case rel => exact ⟨k + 1, by omega, rfl, Lib.hid (by rw [HT.out]; simpa using HO6.out), HB6⟩
      · go_wp2_with (refine stop_load (ty := 29) rfl ?_)
        refine ⟨wpList_load_at_w (by rfl) rfl HA2.out.ent (by rfl) row29 ?_⟩
        go_wp2_with fail
        refine (refIn28 iss s.ent w2 oa m c (HI1.out.below HB2.out)).mono ?_
        rintro r w3 ⟨rfl, hb⟩
        have HA3 := Lib.hid (HA2.out.later hb); have HO3 := Lib.hid (HO2.out.later hb); have HB3 := Lib.hid (below_step HB2.out hb)
        clear hb HO2 HB2 HA2
        cases hi : inD iss s.ent
        · have hbad : badOf iss s = true := by rw [HV.out, hi]; simp
          rw [hbad] at HT
          clear HV hh hbad hi
          go_wp2_with (refine stop_load (ty := 50) rfl ?_)
          refine ⟨wpList_load_at rfl rfl HA3.out (by rfl) row50 ?_⟩
          have hal2 : Below w3.heap.size w3 (w3.alloc (.cells s.cells.toArray 50)) := (Below.refl _ _).alloc (Nat.le_refl _) _
          have hN3 : Blk (w3.alloc (.cells s.cells.toArray 50)) w3.heap.size s.cells := Blk.new' rfl
          have HO5 := Lib.hid (HO3.out.later hal2); have HB5 := Lib.hid (below_step HB3.out hal2); have HN3 := Lib.hid hN3
          have hlc := cells_8 s
          clear hal2 hN3 HO3 HB3 HA3
          go_wp2_with (refine stop_append rfl ?_)
          rw [fold_pe s]
          clear hlc
          have hlen := HK.out
          refine ⟨wpList_app el32 rfl rfl (by rfl) HO5.out (by rfl) (m := 1) rfl HN3.out.cells (pe_one s) (by simp [maxLen]; omega) (by omega) HB5.out.size ?_⟩
          intro v6 W6 hO6 hg6
          have hb6 := HO5.out.below hg6 HB5.out (Nat.le_refl _) HB5.out.size
          have HO6 := Lib.hid hO6; have HB6 := Lib.hid hb6
          clear hO6 hg6 hb6 hlen HO5 HB5 HN3
          go_wp2_with fail
          go_roundw
          case measure => (simp [intOf]) <;> omega
          case rel => exact ⟨k + 1, by omega, rfl, Lib.hid (by rw [HT.out]; simpa using HO6.out), HB6⟩
        · have hbad : badOf iss s = false := by rw [HV.out, hi, hh]; rfl
          rw [hbad] at HT
          clear HV hh hbad hi
          go_wp2_with fail
          go_roundw
          case measure => (simp [intOf]) <;> omega
          case rel => exact ⟨k + 1, by omega, rfl, Lib.hid (by rw [HT.out]; simpa using HO3.out), HB3⟩
    · obtain rfl : k = lst.length := by omega
      rw [List.take_length] at hO
      have HO := hO; have HB := hB; clear hO hB
      go_wp2
      refine bodyPost_ret (v := u6) (by simp [results, Try.results13, go_sem]) rfl ⟨u6, rfl, by rw [HD.out]; exact HO.out.mono H0.out, below_step HB1.out HB.out⟩

/-- whether no two entries of unlike names have one identifier -/
def alikeD (a b : En) : Bool := decide (a.id = b.id) && !decide (a.name = b.name)
def InjOk (l : List En) (e : Ending) : Prop := ∃ b, e = .returned (.bool b) ∧ (b = true → ∀ i (hi : i < l.length) j (hj : j < i), alikeD l[i] (l[j]'(by omega)) = false)
theorem Rws.pre {α : Type} {f : α → List Value} {w : World} {oa : Option Addr} {n c : Nat} {l : List α} (h : Rws f w oa n c l) {k : Nat} (hk : k ≤ l.length) : Rws f w oa k c (l.take k) := h.take hk
theorem inj10 (l : List En) (w : World) (oa : Option Addr) (m c : Nat) (h : REn w oa m c l) (hl : l.length ≤ 1000) :
    Calls Try.prog 10 #[.slice oa m c] w fun r w' => InjOk l r ∧ Below w.heap.size w w' := by
  obtain rfl : m = l.length := h.rows.len
  have H := Lib.hid h; have HL := Lib.hid hl
  have hcap := Lib.hid h.le
  clear h hl
  go_enter Try.func10, Try.ntmps10
  go_wp2
  go_loopw [9] (fun i wr => ∃ k : Nat, k ≤ l.length ∧ i = .int .i64 k ∧ Hid (∀ i (hi : i < l.length) j (hj : j < i), i < k → alikeD l[i] (l[j]'(by omega)) = false) ∧ Hid (Below w.heap.size w wr)) (fun i _ => l.length - (intOf i).toNat)
  case atStart => exact ⟨0, by omega, rfl, Lib.hid (fun _ _ _ _ h => by omega), Lib.hid (Below.refl _ _)⟩
  case round =>
    obtain ⟨k, hk, rfl, hS, hB⟩ := hrel
    by_cases hlt : k < l.length
    · have hi1 : (k : Int) < (l.length : Int) := by omega
      have rk : IntKind.i64.wrap ((k : Int) + 1) = ((k + 1 : Nat) : Int) := by
        have h1 := HL.out
        rw [IntKind.wrap_i64]; omega
      obtain ⟨b1, p1, rfl, hA⟩ := (H.out.rows.below hB.out).en hlt
      obtain ⟨a, ha⟩ : ∃ s, l[k] = s := ⟨_, rfl⟩
      rw [ha] at hA
      have HA := Lib.hid hA; have HAE := Lib.hid ha
      clear ha hA
      obtain ⟨w2, rfl⟩ : ∃ q, q = wr := ⟨_, rfl⟩
      go_wp2_with (refine stop_load (ty := 29) rfl ?_)
      refine ⟨wpList_load_at rfl rfl HA.out (by rfl) row29 ?_⟩
      have hZ : Blk (w2.alloc (.cells ([.string ⟨#[]⟩, .int .u64 0, .int .i64 0, .int .i64 0, .int .i64 0, .string ⟨#[]⟩] : List Value).toArray 29)) w2.heap.size [.string ⟨#[]⟩, .int .u64 0, .int .i64 0, .int .i64 0, .int .i64 0, .string ⟨#[]⟩] := Blk.new' rfl
      have hal : Below w2.heap.size w2 (w2.alloc (.cells ([.string ⟨#[]⟩, .int .u64 0, .int .i64 0, .int .i64 0, .int .i64 0, .string ⟨#[]⟩] : List Value).toArray 29)) := (Below.refl _ _).alloc (Nat.le_refl _) _
      have HZ := Lib.hid hZ; have HAL := Lib.hid hal
      clear hZ hal
      go_wp2_with (refine stop_store (ty := 29) rfl ?_)
      refine ⟨wpList_store_blk (vs := a.cells) rfl rfl HZ.out (by rfl) (by rfl) row29 rfl (en_one _) fun W3 hY hg => ?_⟩
      have HB3 := Lib.hid (below_step hB.out (Below.grownB HAL.out hg (Nat.le_refl _) HAL.out.size))
      have HY := Lib.hid hY
      have hkc : (k : Int) ≤ (c : Int) := by have := hcap.out; omega
      have hk0 : (0 : Int) ≤ (k : Int) := by omega
      clear hY hg HZ HAL HA hB
      go_wp2
      clear hi1 hkc hk0
      go_loopw [18] (fun i wr => ∃ j : Nat, j ≤ k ∧ i = .int .i64 j ∧ Hid (∀ q (hq : q < k), q < j → alikeD a (l[q]'(by omega)) = false) ∧ Hid (Below W3.heap.size W3 wr)) (fun i _ => k - (intOf i).toNat)
      case atStart => exact ⟨0, by omega, rfl, Lib.hid (fun _ _ h => by omega), Lib.hid (Below.refl _ _)⟩
      case round =>
        obtain ⟨j, hj, rfl, hN, hB⟩ := hrel
        by_cases hjk : j < k
        · have hj1 : (j : Int) < (k : Int) := by omega
          have hjl : j < l.length := by omega
          have rj : IntKind.i64.wrap ((j : Int) + 1) = ((j + 1 : Nat) : Int) := by
            have h1 := HL.out
            rw [IntKind.wrap_i64]; omega
          have HBB := Lib.hid (below_step HB3.out hB.out)
          obtain ⟨b2, p2, he2, hA⟩ := (H.out.rows.below HBB.out).en hjl
          cases he2
          have HG : Hid (alikeD a l[j] = false → ∀ q (hq : q < k), q < j + 1 → alikeD a (l[q]'(by omega)) = false) := fun h q hq hq2 => by
            by_cases e : q = j
            · subst e; exact h
            · exact hN.out q hq (by omega)
          obtain ⟨b, hb⟩ : ∃ s, l[j] = s := ⟨_, rfl⟩
          rw [hb] at hA HG
          have HA := Lib.hid hA
          have HY2 := Lib.hid (HY.out.later hB.out)
          clear hb hA hN
          obtain ⟨w4, rfl⟩ : ∃ q, q = wr := ⟨_, rfl⟩
          go_wp2_with (refine stop_load (ty := 29) rfl ?_)
          refine ⟨wpList_load_at rfl rfl HA.out (by rfl) row29 ?_⟩
          have hZ : Blk (w4.alloc (.cells ([.string ⟨#[]⟩, .int .u64 0, .int .i64 0, .int .i64 0, .int .i64 0, .string ⟨#[]⟩] : List Value).toArray 29)) w4.heap.size [.string ⟨#[]⟩, .int .u64 0, .int .i64 0, .int .i64 0, .int .i64 0, .string ⟨#[]⟩] := Blk.new' rfl
          have hal : Below w4.heap.size w4 (w4.alloc (.cells ([.string ⟨#[]⟩, .int .u64 0, .int .i64 0, .int .i64 0, .int .i64 0, .string ⟨#[]⟩] : List Value).toArray 29)) := (Below.refl _ _).alloc (Nat.le_refl _) _
          have HZ := Lib.hid hZ; have HAL := Lib.hid hal
          clear hZ hal
          go_wp2_with (refine stop_store (ty := 29) rfl ?_)
          refine ⟨wpList_store_blk (vs := b.cells) rfl rfl HZ.out (by rfl) (by rfl) row29 rfl (en_one _) fun W5 hX hg => ?_⟩
          have hb5 := Below.grownB HAL.out hg (Nat.le_refl _) HAL.out.size
          have HB5 := Lib.hid (below_step hB.out hb5)
          have hYX := HY2.out.later hb5
          have y1 : W5.cell? ⟨w2.heap.size, 1, none⟩ = some (.int .u64 a.id) := en_at hYX 1 (by omega)
          have y0 : W5.cell? ⟨w2.heap.size, 0, none⟩ = some (.string a.name) := en_at hYX 0 (by omega)
          have x1 : W5.cell? ⟨w4.heap.size, 1, none⟩ = some (.int .u64 b.id) := en_at hX 1 (by omega)
          have x0 : W5.cell? ⟨w4.heap.size, 0, none⟩ = some (.string b.name) := en_at hX 0 (by omega)
          have xl := hX.lt; have yl := hYX.lt
          have HV : Hid (alikeD a b = (decide (a.id = b.id) && !decide (a.name = b.name))) := rfl
          have HXB : Hid (Below w.heap.size w W5) := by
            have := below_step HB3.out HB5.out
            exact this
          clear hb5 hYX hg hX HZ HAL HA HY2 hB
          by_cases h1 : a.id = b.id
          · have h1' : ((a.id : Int) == (b.id : Int)) = true := by rw [h1]; simp
            by_cases h2 : a.name = b.name
            · have h2' : (a.name.toList == b.name.toList) = true := by rw [h2]; simp
              have HG2 := Lib.hid (HG.out (by rw [HV.out, h2]; simp))
              clear HG HV h1 h2
              go_wp2_with fail
              refine ⟨?_, ?measureA⟩
              rotate_left
              · (simp [intOf]) <;> omega
              have hfin : ∃ k_1 : Nat, k_1 ≤ k ∧ Value.int IntKind.i64 ((j : Int) + 1) = Value.int IntKind.i64 (k_1 : Int) ∧ Hid (∀ q (hq : q < k), q < k_1 → alikeD a (l[q]'(by omega)) = false) ∧ Hid (Below W3.heap.size W3 W5) := ⟨j + 1, by omega, rfl, HG2, HB5⟩
              first | exact hfin | ((repeat apply Exists.intro); exact ⟨hfin, rfl⟩)
            · have h2' : (a.name.toList == b.name.toList) = false := strne h2
              clear HG HV h1 h2
              go_wp2
              refine bodyPost_ret (v := .bool false) (by simp [results, Try.results10, go_sem]) rfl ⟨⟨false, rfl, fun h => by cases h⟩, HXB.out⟩
          · have h1' : ((a.id : Int) == (b.id : Int)) = false := by simp; omega
            have HG2 := Lib.hid (HG.out (by rw [HV.out, decide_eq_false h1]; rfl))
            clear HG HV h1
            go_wp2_with fail
            refine ⟨?_, ?measureB⟩
            rotate_left
            · (simp [intOf]) <;> omega
            have hfin : ∃ k_1 : Nat, k_1 ≤ k ∧ Value.int IntKind.i64 ((j : Int) + 1) = Value.int IntKind.i64 (k_1 : Int) ∧ Hid (∀ q (hq : q < k), q < k_1 → alikeD a (l[q]'(by omega)) = false) ∧ Hid (Below W3.heap.size W3 W5) := ⟨j + 1, by omega, rfl, HG2, HB5⟩
            first | exact hfin | ((repeat apply Exists.intro); exact ⟨hfin, rfl⟩)
        · obtain rfl : j = k := by omega
          have HS2 : Hid (∀ i (hi : i < l.length) q (hq : q < i), i < j + 1 → alikeD l[i] (l[q]'(by omega)) = false) := fun i hi q hq hik => by
            by_cases e : i = j
            · subst e; rw [HAE.out]; exact hN.out q hq hq
            · exact hS.out i hi q hq (by omega)
          have HBB := Lib.hid (below_step HB3.out hB.out)
          clear hN hS hB
          go_wp2
          go_roundw
          case measure => (simp [intOf]) <;> omega
          case rel => exact ⟨j + 1, by omega, rfl, HS2, HBB⟩
    · obtain rfl : k = l.length := by omega
      have HR : Hid (∀ i (hi : i < l.length) j (hj : j < i), alikeD l[i] (l[j]'(by omega)) = false) := fun i hi j hj => hS.out i hi j hj hi
      clear hS
      go_wp2
      refine bodyPost_ret (v := .bool true) (by simp [results, Try.results10, go_sem]) rfl ⟨⟨true, rfl, fun _ => HR.out⟩, hB.out⟩
end Go.Proofs.Ythdkgcmoagookaa
