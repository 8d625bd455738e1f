/-
  Walks: those that a node should not know; whether it knows issued ones alone.
-/
import Derived.Test.YthdkgcmoagookaaWl
namespace Go.Proofs.Ythdkgcmoagookaa
open Go.RowKit Go.Shelf Go.Proofs.Ythdkgcmoagookaa.Plan Go.Proofs.Ythdkgcmoagookaa.Eager
set_option maxHeartbeats 4000000
set_option maxRecDepth 20000
set_option linter.unusedVariables false
set_option linter.unusedSimpArgs false
attribute [local go_sem] Oper.semAt_some

theorem bad17 (nd : Nd) (iss : List En) (w : World) (oa : Option Addr) (m c : Nat) (hn : nd.Good w) (hf : nd.Few) (hi : REn w oa m c iss) :
    Calls Try.prog 17 #[.agg nd.cells.toArray, .slice oa m c] w fun r w' => Peers w (badD nd iss) r w' := by
  refine (callsIn_wide (n := 8)).1 ?_
  refine callsIn_of_wp_marks Try.func17 rfl trivial ?_ rfl
  simp only [Try.ntmps17, List.size_toArray, List.length_cons, List.length_nil, Nat.reduceAdd, Nat.reduceSub, Array.replicate_succ, Array.replicate_zero, List.push_toArray, List.append_toArray, List.nil_append, List.cons_append]
  have hX : Blk (((w.alloc (.cells nd.cells.toArray 41)).alloc (.cells #[.slice oa m c] 23)).alloc (.cells #[.slice none 0 0] 32)) w.heap.size nd.cells := ((Blk.new' rfl).alloc _).alloc _
  have HX := Lib.hid hX
  gi_wp2_with (refine stop_loadIn (ty := 41) rfl ?_)
  refine ⟨wpListIn_load_at (by rfl) rfl HX.out.at_ (by rfl) row41 ?_⟩
  gi_wp2_with fail
  refine ⟨trivial, callsIn_wide.2 ((each22 nd _).mono ?_)⟩
  rintro r w1 ⟨rfl, rfl⟩
  gi_wp2_with fail
  have hN0 : Blk ((((w.alloc (.cells nd.cells.toArray 41)).alloc (.cells #[.slice oa m c] 23)).alloc (.cells #[.slice none 0 0] 32)).alloc (.cells nd.cells.toArray 41)) (w.heap.size + 1 + 1 + 1) nd.cells := Blk.new' (by simp)
  have hR0 := (Boxed.new ((w.alloc (.cells nd.cells.toArray 41)).alloc (.cells #[.slice oa m c] 23)) 32 (.slice none 0 0)).alloc (.cells nd.cells.toArray 41)
  have hI0 := ((Boxed.new (w.alloc (.cells nd.cells.toArray 41)) 23 (.slice oa m c)).alloc (.cells #[.slice none 0 0] 32)).alloc (.cells nd.cells.toArray 41)
  simp only [World.size_alloc] at hR0 hI0
  have hB0 : Below w.heap.size w ((((w.alloc (.cells nd.cells.toArray 41)).alloc (.cells #[.slice oa m c] 23)).alloc (.cells #[.slice none 0 0] 32)).alloc (.cells nd.cells.toArray 41)) := ((((Below.refl _ w).alloc (Nat.le_refl _) _).alloc (by simp) _).alloc (by simp; omega) _).alloc (by simp; omega) _
  have hsz : ((((w.alloc (.cells nd.cells.toArray 41)).alloc (.cells #[.slice oa m c] 23)).alloc (.cells #[.slice none 0 0] 32)).alloc (.cells nd.cells.toArray 41)).heap.size = w.heap.size + 4 := by simp
  obtain ⟨W0, hW0⟩ : ∃ W0, ((((w.alloc (.cells nd.cells.toArray 41)).alloc (.cells #[.slice oa m c] 23)).alloc (.cells #[.slice none 0 0] 32)).alloc (.cells nd.cells.toArray 41)) = W0 := ⟨_, rfl⟩
  rw [hW0] at hN0 hR0 hI0 hB0 hsz ⊢
  clear hW0 hX HX
  have hrow0 : ∀ r, rowB W0 (w.heap.size + 1 + 1) = some r → r < W0.heap.size ∧ r ≠ w.heap.size + 1 + 1 + 1 := fun r h => by rw [rowB_boxed hR0] at h; simp [Value.ownBlock] at h
  have HLEN := Lib.hid (all_len nd hf)
  have HISS := Lib.hid hi
  have HBD : Hid (badD nd iss = (allD nd).filter (badOf iss)) := rfl
  refine wpIn_rangeFunc_ownH rfl (by omega) (gf := 33) (lb := #[.pointer (some ⟨w.heap.size + 1 + 1 + 1, 0, none⟩)]) rfl trivial (enters_of Try.func33 (by kernel_rfl) rfl)
    (each_stops 7 (by omega) (w.heap.size + 1 + 1 + 1) (w.heap.size + 1 + 1) w W0 nd hn hf hB0 hN0 (by omega) (by omega) hrow0) KpR.trans (KpR.putObj (by omega) (by omega)) (Below.refl _ _) (fun _ => rfl)
    (fun pre W => Got (w.heap.size + 1 + 1) (w.heap.size + 4) (List.filter (badOf iss)) pre W ∧ Below w.heap.size w W ∧ w.heap.size + 4 ≤ W.heap.size ∧ Boxed W (w.heap.size + 1) 23 (.slice oa m c))
    (fun _ _ _ => False)
    (OwnFrom.and (Go.Own.from (got_own _ _ _) _) (OwnFrom.and (ownFrom_below (Nat.le_refl _) (by omega)) (OwnFrom.and (size_own _ _) (Go.Own.from (boxed_own _ _ (fun _ => Value.slice oa m c)) _))))
    (fun _ _ _ _ _ hs _ _ => hs)
    ⟨⟨_, hR0, World.ownsRow_nil _ _ _ _, trivial⟩, hB0, by omega, hI0⟩
    (fun x a' W => ∃ Bp, w.heap.size + 3 < Bp ∧ Blk W Bp x.cells ∧ a' = { tmps := #[.agg nd.cells.toArray, .slice oa m c, .pointer (some ⟨w.heap.size, 0, none⟩), .pointer (some ⟨w.heap.size + 1, 0, none⟩), .slice none 0 0, .pointer (some ⟨w.heap.size + 1 + 1, 0, none⟩), .pointer (some ⟨Bp, 0, none⟩), .agg nd.cells.toArray, .func (.func 33) #[] #[.pointer (some ⟨w.heap.size + 1 + 1 + 1, 0, none⟩)], .agg x.cells.toArray, undef, undef, undef, undef, undef, undef, undef, undef, undef, undef, undef, undef, undef, undef, undef], defers := [] })
    (fun x a' _ X Y row hs hg hr => by obtain ⟨Bp, h1, h2, h3⟩ := hs; exact ⟨Bp, h1, blk_own Bp (fun (_ : Unit) => x.cells) (by simp [Pe.cells, En.cells]) () X Y row h2 hg (fun r e => (hr r e).2), h3⟩)
    ?assign ?body ?done ?stop
  case assign =>
    rintro lp pre s W K ⟨hgot, hB, hS, hI1⟩ hK
    have hZ : Blk (W.alloc (.cells ([.string ⟨#[]⟩, .int .u64 0, .int .i64 0, .int .i64 0, .int .i64 0, .string ⟨#[]⟩, .int .i64 0, .int .i64 0] : List Value).toArray 50)) W.heap.size [.string ⟨#[]⟩, .int .u64 0, .int .i64 0, .int .i64 0, .int .i64 0, .string ⟨#[]⟩, .int .i64 0, .int .i64 0] := Blk.new' rfl
    have hal : Below W.heap.size W (W.alloc (.cells ([.string ⟨#[]⟩, .int .u64 0, .int .i64 0, .int .i64 0, .int .i64 0, .string ⟨#[]⟩, .int .i64 0, .int .i64 0] : List Value).toArray 50)) := (Below.refl _ _).alloc (Nat.le_refl _) _
    have HK := Lib.hid hK; have HI := Lib.hid (And.intro hgot (And.intro hB (And.intro hS hI1))); have HZ := Lib.hid hZ; have HAL := Lib.hid hal
    clear hK hgot hB hS hI1 hZ hal hN0 hR0 hI0 hB0 hrow0
    simp only [encP]
    gi_wp2_with (refine stop_storeIn (ty := 50) rfl ?_)
    refine ⟨wpListIn_store_blk (by rfl) rfl HZ.out (by rfl) (vs := s.cells) (by rfl) row50 rfl (pe_one _) ?_⟩
    intro W5 hX5 hg5
    have hb5 := Below.grownB HAL.out hg5 (Nat.le_refl _) HAL.out.size
    have hI := HI.out
    gi_wp2
    obtain ⟨⟨v, hv, hrow, -⟩, hB, hS, hI1⟩ := hI
    have hvl := hv.lt
    refine HK.out _ _ ((keeps_below hb5).from _) (KpR.of_below hB.size hvl hb5) ⟨⟨v, (hb5.block _ hvl).trans hv, ((⟨hrow⟩ : Own _ _ _ _ _ _ _).later hb5).row, trivial⟩, hB.trans (hb5.mono hB.size), Nat.le_trans hS hb5.size, (hb5.block _ hI1.lt).trans hI1⟩ ⟨W.heap.size, by omega, hX5, rfl⟩
  case body =>
    rintro lp pre s a' W hl ⟨r, hr⟩ ⟨⟨v, hv, hrow, -⟩, hB, hS, hI1⟩ ⟨Bp, hBp, hX, rfl⟩ hlt
    have HV := Lib.hid hv; have HROW : Hid (Own W (w.heap.size + 4) 50 8 v (pre.filter (badOf iss)).length ((pre.filter (badOf iss)).flatMap Pe.cells)) := ⟨hrow⟩
    have HB := Lib.hid hB; have HX := Lib.hid hX; have HLT := Lib.hid hlt; have HI := Lib.hid hI1
    have HW3 : Hid (w.heap.size + 4 ≤ W.heap.size) := hS
    have HFL : Hid ((pre.filter (badOf iss)).length ≤ pre.length) := List.length_filter_le _ _
    have HV2 : Hid (badOf iss s = (!holdsD s || !inD iss s.ent)) := rfl
    have HT0 : Hid ((pre ++ [s]).filter (badOf iss) = pre.filter (badOf iss) ++ (if badOf iss s then [s] else [])) := by
      show _ = _
      rw [List.filter_append]
      cases hq : badOf iss s <;> simp [hq]
    have hbl := hX.lt
    have fin : badOf iss s = false → ∀ W', Below W.heap.size W W' → KeepsFrom W0.heap.size W W' ∧ KpR w.heap.size (w.heap.size + 1 + 1) W W' ∧ (Got (w.heap.size + 1 + 1) (w.heap.size + 4) (List.filter (badOf iss)) (pre ++ [s]) W' ∧ Below w.heap.size w W' ∧ w.heap.size + 4 ≤ W'.heap.size ∧ Boxed W' (w.heap.size + 1) 23 (.slice oa m c)) := fun hbad W' hb => by
      have ht := HT0.out
      rw [hbad] at ht
      refine ⟨(keeps_below hb).from _, KpR.of_below HB.out.size HV.out.lt hb, ⟨v, (hb.block _ HV.out.lt).trans HV.out, ?_, trivial⟩, HB.out.trans (hb.mono HB.out.size), Nat.le_trans HW3.out hb.size, (hb.block _ HI.out.lt).trans HI.out⟩
      rw [ht]; simpa using (HROW.out.later hb).row
    have FIN := Lib.hid fin
    clear hv hrow hB hS hX hlt hI1 hl hr hN0 hR0 hI0 hB0 hrow0 hsz fin
    gi_wp2_with (refine stop_loadIn (ty := 50) rfl ?_)
    refine ⟨wpListIn_load_at (by rfl) rfl HX.out.at_ (by rfl) row50 ?_⟩
    gi_wp2_with fail
    refine ⟨trivial, CallsIn.inRound lp (callsIn_wide.2 ((holds29 s W).mono ?_))⟩
    rintro r w2 ⟨rfl, hb⟩
    have HC2 := Lib.hid hb
    clear hb hbl
    cases hh : holdsD s
    · have HT : Hid ((pre ++ [s]).filter (badOf iss) = pre.filter (badOf iss) ++ [s]) := by
        have h := HT0.out
        rw [HV2.out, hh] at h
        exact h
      clear HT0 HV2 hh FIN
      gi_wp2_with fail
      refine ⟨trivial, ?_⟩
      have hbw := HC2.out
      have hvw : Boxed w2 (w.heap.size + 1 + 1) 32 v := (hbw.block _ HV.out.lt).trans HV.out
      have hc5 := hvw.cell
      have hv5 : w.heap.size + 1 + 1 < w2.heap.size := Nat.lt_of_lt_of_le HV.out.lt hbw.size
      have hXl := HX.out.later hbw
      have hal2 : Below W.heap.size W (w2.alloc (.cells s.cells.toArray 50)) := below_step hbw ((Below.refl _ _).alloc (Nat.le_refl _) _)
      have hN3 : Blk (w2.alloc (.cells s.cells.toArray 50)) w2.heap.size s.cells := Blk.new' rfl
      have HAL := Lib.hid hal2; have HN3 := Lib.hid hN3; have HXL := Lib.hid hXl
      clear hbw hXl hal2 hN3 HC2 hvw
      gi_wp2_with (refine stop_loadIn (ty := 50) rfl ?_)
      refine ⟨wpListIn_load_at (by rfl) rfl HXL.out.at_ (by rfl) row50 ?_⟩
      have hlc := cells_8 s
      gi_wp2_with (refine stop_appendIn rfl ?_)
      rw [fold_pe s]
      clear hlc
      have hlen := HLEN.out; have hlt := HLT.out
      have hfl := HFL.out
      refine ⟨wpListIn_app_at el32 rfl rfl (by rfl) (HROW.out.later HAL.out) (by rfl) (m := 1) rfl HN3.out.cells (pe_one s) (by omega) (by simp [maxLen]; omega) (by omega) (Nat.le_trans HW3.out HAL.out.size) ?_⟩
      intro g cap W7 hO7 hg7 hat
      obtain ⟨hv7, hv8, hO8, hko, hkp⟩ := appended_kp (n₀ := w.heap.size) HV.out (by decide) HROW.out (by omega) (by omega) HB.out.size HAL.out hg7 hat hO7
      have c7 := hv7.cell; have f7 := hv7.frozen; have l7 := hv7.lt
      have HV8 := Lib.hid hv8; have HO8 := Lib.hid hO8; have HKO := Lib.hid hko; have HKP := Lib.hid hkp
      have HI8 : Hid (Boxed (W7.setCell ⟨w.heap.size + 1 + 1, 0, none⟩ (.slice (some ⟨g, 0, none⟩) ((pre.filter (badOf iss)).length + 1) cap)) (w.heap.size + 1) 23 (.slice oa m c)) := by
        have h := hkp.kept _ _ HI.out rfl (by omega) (by rw [rowB_boxed HV.out]; intro e; have := (HROW.out.row.lt _ e).1; omega)
        exact h
      clear hv7 hv8 hO8 hko hkp hO7 hg7 hat hc5 hv5 hlen hlt hfl
      gi_wp2
      exact ⟨HKO.out.from _, HKP.out, ⟨_, HV8.out, by rw [HT.out]; simpa using HO8.out.row, trivial⟩, HB.out.trans HKP.out.below, Nat.le_trans HW3.out HKP.out.below.size, HI8.out⟩
    · have hI2 : Boxed w2 (w.heap.size + 1) 23 (.slice oa m c) := (HC2.out.block _ HI.out.lt).trans HI.out
      have ci := hI2.cell; have li := hI2.lt
      have HX2 := Lib.hid (HX.out.later HC2.out)
      clear hI2
      gi_wp2_with (refine stop_loadIn (ty := 29) rfl ?_)
      refine ⟨wpListIn_load_at (by rfl) rfl HX2.out.at_.ent (by rfl) row29 ?_⟩
      gi_wp2_with fail
      refine ⟨trivial, CallsIn.inRound lp (callsIn_wide.2 ((contains30 iss s.ent w2 oa m c (HISS.out.below (HB.out.trans (HC2.out.mono HB.out.size)))).mono ?_))⟩
      rintro r w3 ⟨rfl, hb⟩
      have HC3 := Lib.hid (below_step HC2.out hb)
      clear hb ci li HC2 HX2
      cases hi : inD iss s.ent
      · have HT : Hid ((pre ++ [s]).filter (badOf iss) = pre.filter (badOf iss) ++ [s]) := by
          have h := HT0.out
          rw [HV2.out, hh, hi] at h
          exact h
        clear HT0 HV2 hh hi FIN
        have hbw := HC3.out
        have hvw : Boxed w3 (w.heap.size + 1 + 1) 32 v := (hbw.block _ HV.out.lt).trans HV.out
        have hc5 := hvw.cell
        have hv5 : w.heap.size + 1 + 1 < w3.heap.size := Nat.lt_of_lt_of_le HV.out.lt hbw.size
        have hXl := HX.out.later hbw
        have hal2 : Below W.heap.size W (w3.alloc (.cells s.cells.toArray 50)) := below_step hbw ((Below.refl _ _).alloc (Nat.le_refl _) _)
        have hN3 : Blk (w3.alloc (.cells s.cells.toArray 50)) w3.heap.size s.cells := Blk.new' rfl
        have HAL := Lib.hid hal2; have HN3 := Lib.hid hN3; have HXL := Lib.hid hXl
        clear hbw hXl hal2 hN3 HC3 hvw
        gi_wp2_with (refine stop_loadIn (ty := 50) rfl ?_)
        refine ⟨wpListIn_load_at (by rfl) rfl HXL.out.at_ (by rfl) row50 ?_⟩
        have hlc := cells_8 s
        gi_wp2_with (refine stop_appendIn rfl ?_)
        rw [fold_pe s]
        clear hlc
        have hlen := HLEN.out; have hlt := HLT.out
        have hfl := HFL.out
        refine ⟨wpListIn_app_at el32 rfl rfl (by rfl) (HROW.out.later HAL.out) (by rfl) (m := 1) rfl HN3.out.cells (pe_one s) (by omega) (by simp [maxLen]; omega) (by omega) (Nat.le_trans HW3.out HAL.out.size) ?_⟩
        intro g cap W7 hO7 hg7 hat
        obtain ⟨hv7, hv8, hO8, hko, hkp⟩ := appended_kp (n₀ := w.heap.size) HV.out (by decide) HROW.out (by omega) (by omega) HB.out.size HAL.out hg7 hat hO7
        have c7 := hv7.cell; have f7 := hv7.frozen; have l7 := hv7.lt
        have HV8 := Lib.hid hv8; have HO8 := Lib.hid hO8; have HKO := Lib.hid hko; have HKP := Lib.hid hkp
        have HI8 : Hid (Boxed (W7.setCell ⟨w.heap.size + 1 + 1, 0, none⟩ (.slice (some ⟨g, 0, none⟩) ((pre.filter (badOf iss)).length + 1) cap)) (w.heap.size + 1) 23 (.slice oa m c)) := by
          have h := hkp.kept _ _ HI.out rfl (by omega) (by rw [rowB_boxed HV.out]; intro e; have := (HROW.out.row.lt _ e).1; omega)
          exact h
        clear hv7 hv8 hO8 hko hkp hO7 hg7 hat hc5 hv5 hlen hlt hfl
        gi_wp2
        exact ⟨HKO.out.from _, HKP.out, ⟨_, HV8.out, by rw [HT.out]; simpa using HO8.out.row, trivial⟩, HB.out.trans HKP.out.below, Nat.le_trans HW3.out HKP.out.below.size, HI8.out⟩
      · have HF := Lib.hid (FIN.out (by rw [HV2.out, hh, hi]; rfl) w3 HC3.out)
        clear HT0 HV2 hh hi FIN
        gi_wp2
        exact HF.out
  case done =>
    rintro D ys W hD rfl ⟨⟨v, hv, hrow, -⟩, hB, hS, hI1⟩ hK
    have hc := hv.cell; have hvl := hv.lt
    have HROW : Hid (W.ownsRow (w.heap.size + 4) 50 8 v ((allD nd).filter (badOf iss)).length (((allD nd).filter (badOf iss)).flatMap Pe.cells)) := hrow
    clear hv hrow hN0 hR0 hI0 hrow0 hI1
    gi_wp2
    refine ⟨by simp, .inl ⟨_, _, rfl, run_takeDeferred hK, ?_⟩⟩
    exact ⟨v, by simp [results, Try.results17, go_sem], v, rfl, by rw [HBD.out]; exact ⟨(Own.mono ⟨ownsRow_putObj HROW.out _ hK rfl⟩ (by omega)).row⟩, hB.trans (belowK_b (w := w) (Nat.le_refl _) W D _ _ (by omega) hK rfl rfl)⟩
  case stop =>
    rintro D c' pre W hD _ h _
    exact h.elim

theorem known9 (nd : Nd) (iss : List En) (w : World) (oa : Option Addr) (m c : Nat) (hn : nd.Good w) (hf : nd.Few) (hi : REn w oa m c iss) :
    Calls Try.prog 9 #[.agg nd.cells.toArray, .slice oa m c] w fun r w' => r = .returned (.bool (decide (badD nd iss = []))) ∧ Below w.heap.size w w' := by
  have hX : Blk (w.alloc (.cells nd.cells.toArray 41)) w.heap.size nd.cells := Blk.new' rfl
  have hal : Below w.heap.size w (w.alloc (.cells nd.cells.toArray 41)) := (Below.refl _ _).alloc (Nat.le_refl _) _
  have HX := Lib.hid hX; have HB := Lib.hid hal
  have HC := Lib.hid (bad17 nd iss _ oa m c (hn.below hal) hf (hi.below hal))
  clear hX hal hn hf hi
  go_enter Try.func9, Try.ntmps9
  go_wp2_with (refine stop_load (ty := 41) rfl ?_)
  refine ⟨wpList_load_blk rfl rfl HX.out (by rfl) row41 ?_⟩
  go_wp2_with fail
  refine HC.out.mono ?_
  rintro r w1 ⟨v, rfl, hO, hb⟩
  have HB2 := Lib.hid (below_step HB.out hb)
  obtain ⟨l, hl⟩ : ∃ l, badD nd iss = l := ⟨_, rfl⟩
  rw [hl] at hO
  obtain ⟨so, sc, rfl, -⟩ := hO.rws rfl
  have HV : Hid (decide (badD nd iss = []) = ((l.length : Int) == 0)) := by
    show _ = _
    rw [hl]
    cases l with
    | nil => rfl
    | cons a r => simp; omega
  clear hl hO hb HB HX HC
  go_wp2
  refine bodyPost_ret (v := .bool ((l.length : Int) == 0)) (by simp [results, Try.results9, go_sem]) rfl ⟨by rw [HV.out], HB2.out⟩
end Go.Proofs.Ythdkgcmoagookaa
