/-
  Walks: all peers that a node knows.
-/
import Derived.Maps.OwnIn
import Derived.Maps.AppendAt
import Derived.Test.YthdkgcmoagookaaWk
namespace Go.Proofs.Ythdkgcmoagookaa
open Go.RowKit Go.Shelf Go.Proofs.Ythdkgcmoagookaa.Plan Go.Proofs.Ythdkgcmoagookaa.Eager
set_option maxHeartbeats 4000000
set_option maxRecDepth 20000
set_option linter.unusedVariables false
set_option linter.unusedSimpArgs false
attribute [local go_sem] Oper.semAt_some

section
variable {F : Fence} {nF : Nat} {P : Program} {w : World} {ops : Array Oper} {rest : List Oper} {o : Oper} {a : Act} {Q : Exit → Act → World → Prop}
theorem stop_appendIn {s x : Operand} {t u : TypeId} (_ : o.op = .call { callee := .builtin .append, args := #[s, x], argTypes := #[t, u] }) (h : Stop (wpListIn F nF P ops Q (o :: rest) a w)) : wpListIn F nF P ops Q (o :: rest) a w := h.out
theorem wpListIn_app_at {s x : Operand} {t e : TypeId} {size bytes : Nat} (E : Elem P t e size bytes) (hgd : o.guard = none)
    (ho : o.op = .call { callee := .builtin .append, args := #[s, x], argTypes := #[t, t] })
    {base : Nat} {v : Value} {n : Nat} {xs : List Value} (hs : a.eval s = v) (hown : Own w base e size v n xs)
    {ad : Addr} {m c : Nat} {cs : List Value} (hx : a.eval x = .slice (some ad) m c) (hm : cs.length = m * size) (hcs : Cells w (some ad) cs) (h1 : ∀ u ∈ cs, u.oneCell' = true) (hpos : 0 < m)
    (h63 : n + m ≤ maxLen) (hbytes : (n + m) * bytes ≤ 140737488355328) (hbase : base ≤ w.heap.size)
    (h : ∀ g cap w', Own w' base e size (.slice (some ⟨g, 0, none⟩) (n + m) cap) (n + m) (xs ++ cs) → w.grownBy w' v.ownBlock → (v.ownBlock = some g ∨ g = w.heap.size) → wpListIn F nF P ops Q rest (a.put o.dst (.slice (some ⟨g, 0, none⟩) (n + m) cap)) w') : wpListIn F nF P ops Q (o :: rest) a w := by
  obtain ⟨i, z, hi, hz, hsize, hby, hzs⟩ := E.info
  refine wpListIn_append_own_at w hgd s x t ho base e i z size bytes E.under hi hz hsize hby hzs E.pos v n xs hs hown.row ad m c cs hx hm hcs.news h1 h63 hbytes hbase ?_
  intro v' w' h2 h3 _ h5
  obtain ⟨g, cap, rfl, _, hlt⟩ := h2.form (by omega)
  refine h g cap w' ⟨h2⟩ h3 ?_
  rcases h5 with h5 | h5
  · exact .inl (by rw [← h5]; rfl)
  · exact .inr (by simpa [Value.ownBlock] using h5)
end

theorem rowB_boxed {W : World} {B : Nat} {t : TypeId} {v : Value} (h : Boxed W B t v) : rowB W B = v.ownBlock := by
  unfold rowB; rw [h.cell]; rfl
/-- behind an append, stored into the box: what a round keeps -/
theorem appended_kp {n₀ Bx base k g c m : Nat} {t e : TypeId} {size : Nat} {W Wa W7 : World} {v : Value} {xs ys : List Value} (hv : Boxed W Bx t v) (hte : t ≠ e) (hrow : Own W base e size v k xs) (hn : n₀ ≤ Bx) (hb : n₀ ≤ base) (hs : n₀ ≤ W.heap.size)
    (ha : Below W.heap.size W Wa) (hg : Wa.grownBy W7 v.ownBlock) (hat : v.ownBlock = some g ∨ g = Wa.heap.size) (hown : Own W7 base e size (.slice (some ⟨g, 0, none⟩) m c) m ys) :
    Boxed W7 Bx t v ∧ Boxed (W7.setCell ⟨Bx, 0, none⟩ (.slice (some ⟨g, 0, none⟩) m c)) Bx t (.slice (some ⟨g, 0, none⟩) m c) ∧ Own (W7.setCell ⟨Bx, 0, none⟩ (.slice (some ⟨g, 0, none⟩) m c)) base e size (.slice (some ⟨g, 0, none⟩) m c) m ys ∧
      KeepsOthers W (W7.setCell ⟨Bx, 0, none⟩ (.slice (some ⟨g, 0, none⟩) m c)) ∧ KpR n₀ Bx W (W7.setCell ⟨Bx, 0, none⟩ (.slice (some ⟨g, 0, none⟩) m c)) := by
  have hva : Boxed Wa Bx t v := (ha.block _ hv.lt).trans hv
  have hrowa : Own Wa base e size v k xs := hrow.later ha
  have hv1 : Boxed W7 Bx t v := hva.kept hg (hva.not_row hte hrowa.row)
  have hv8 := hv1.set (.slice (some ⟨g, 0, none⟩) m c)
  refine ⟨hv1, hv8, ⟨hown.row.kept (grownBy_setCell' W7 Bx _) (.inr (hv1.not_row hte hown.row).symm)⟩, ?_, ⟨?_, fun i o hi hc hne hr => ?_, ?_⟩⟩
  · refine ((keeps_below ha).trans (KeepsOthers.of_grownBy hg fun j o ej hj => ?_)).trans (KeepsOthers.setCell _ _ _)
    rcases hrowa.row.2 with ⟨rfl, _⟩ | ⟨g', cap, cur, rfl, _, hgb, _⟩
    · simp [Value.ownBlock] at ej
    · obtain rfl : g' = j := by simpa [Value.ownBlock] using ej
      rw [hgb] at hj; cases hj; rfl
  · refine ((ha.mono hs).grown hg (Nat.le_trans hs ha.size) fun j ej => ?_).setCell (p := ⟨Bx, 0, none⟩) hn _
    exact Nat.le_trans hb (hrowa.row.lt j ej).1
  · have hlt := (Array.getElem?_eq_some_iff.1 hi).1
    rw [rowB_boxed hv] at hr
    have h1 : Wa.heap[i]? = some o := (ha.block i hlt).trans hi
    have h2 : W7.heap[i]? = some o := (hg.block i (Nat.lt_of_lt_of_le hlt ha.size) (fun e => hr e.symm)).trans h1
    exact (Below.heap_setCell W7 ⟨Bx, 0, none⟩ _ i hne).trans h2
  · rw [rowB_boxed hv8, rowB_boxed hv]
    rcases hat with h | h
    · left; rw [h]; rfl
    · right
      intro g' hg'
      have : g = g' := by simpa [Value.ownBlock] using hg'
      have := ha.size
      omega

theorem each22 (nd : Nd) (w : World) : Calls Try.prog 22 #[.agg nd.cells.toArray] w fun e w' => e = .returned (.func (.func 33) #[] #[.pointer (some ⟨w.heap.size, 0, none⟩)]) ∧ w' = w.alloc (.cells nd.cells.toArray 41) := by
  go_enter Try.func22, Try.ntmps22
  go_wp2
  refine bodyPost_ret (v := .func (.func 33) #[] #[.pointer (some ⟨w.heap.size, 0, none⟩)]) (by simp [results, Try.results22, go_sem]) rfl ⟨rfl, rfl⟩
theorem each_stops (n : Nat) (hn : 1 ≤ n) (Bn Bx : Nat) (wn w : World) (nd : Nd) (hg : nd.Good wn) (hf : nd.Few) (hw : Below wn.heap.size wn w) (hBn : Blk w Bn nd.cells) (hx : Bx < w.heap.size) (hne : Bn ≠ Bx) (hr : ∀ r, rowB w Bx = some r → r < w.heap.size ∧ r ≠ Bn) :
    SeqStopsK Fence.wide n Try.prog 33 #[.pointer (some ⟨Bn, 0, none⟩)] encP (KpR wn.heap.size Bx) (fun ys => ys = allD nd) (fun pre => ∃ r, allD nd = pre ++ r) (allD nd).length w := fun lp J Jx W hW hJ hJx hY h0 => by
  have e : rowB W Bx = rowB w Bx := by unfold rowB; rw [hW.cell (p := ⟨Bx, 0, none⟩) hx]
  exact each33 n hn lp Bn Bx wn nd hg hf (fun _ => True) (fun _ _ => trivial) J Jx W (hw.trans (hW.mono hw.size)) (hBn.later hW) (Nat.lt_of_lt_of_le hx hW.size) hne (fun r h => by rw [e] at h; exact ⟨Nat.lt_of_lt_of_le (hr r h).1 hW.size, (hr r h).2⟩) hJ (fun pre x W1 _ => hY pre x W1) h0

theorem size_own {β : Type} (B m : Nat) : OwnFrom B (fun (_ : β) W => m ≤ W.heap.size) := fun s X Y row hs hg hr => Nat.le_trans hs hg.size
/-- what is at hand between two rounds that collect -/
def Got (Bx base : Nat) (f : List Pe → List Pe) (pre : List Pe) (W : World) : Prop := ∃ v, Boxed W Bx 32 v ∧ W.ownsRow base 50 8 v (f pre).length ((f pre).flatMap Pe.cells) ∧ True
theorem got_own (Bx base : Nat) (f : List Pe → List Pe) : Go.Own (Got Bx base f) := holdsRow_own base Bx 32 50 8 (fun pre => (f pre).length) (fun pre => (f pre).flatMap Pe.cells) (fun _ _ => True)

theorem all15 (nd : Nd) (w : World) (hn : nd.Good w) (hf : nd.Few) : Calls Try.prog 15 #[.agg nd.cells.toArray] w fun r w' => Peers w (allD nd) r w' := by
  refine (callsIn_wide (n := 8)).1 ?_
  refine callsIn_of_wp_marks Try.func15 rfl trivial ?_ rfl
  simp only [Try.ntmps15, List.size_toArray, List.length_cons, List.length_nil, Nat.reduceAdd, Nat.reduceSub, Array.replicate_succ, Array.replicate_zero, List.push_toArray, List.append_toArray, List.nil_append, List.cons_append]
  have hX : Blk ((w.alloc (.cells nd.cells.toArray 41)).alloc (.cells #[.slice none 0 0] 32)) w.heap.size nd.cells := (Blk.new' rfl).alloc _
  have HX := Lib.hid hX
  gi_wp2_with (refine stop_loadIn (ty := 41) rfl ?_)
  refine ⟨wpListIn_load_at (by rfl) rfl HX.out.at_ (by rfl) row41 ?_⟩
  gi_wp2_with fail
  refine ⟨trivial, callsIn_wide.2 ((each22 nd _).mono ?_)⟩
  rintro r w1 ⟨rfl, rfl⟩
  gi_wp2_with fail
  have hN0 : Blk (((w.alloc (.cells nd.cells.toArray 41)).alloc (.cells #[.slice none 0 0] 32)).alloc (.cells nd.cells.toArray 41)) (w.heap.size + 1 + 1) nd.cells := Blk.new' (by simp)
  have hR0 := (Boxed.new (w.alloc (.cells nd.cells.toArray 41)) 32 (.slice none 0 0)).alloc (.cells nd.cells.toArray 41)
  simp only [World.size_alloc] at hR0
  have hB0 : Below w.heap.size w (((w.alloc (.cells nd.cells.toArray 41)).alloc (.cells #[.slice none 0 0] 32)).alloc (.cells nd.cells.toArray 41)) := (((Below.refl _ w).alloc (Nat.le_refl _) _).alloc (by simp) _).alloc (by simp; omega) _
  have hsz : (((w.alloc (.cells nd.cells.toArray 41)).alloc (.cells #[.slice none 0 0] 32)).alloc (.cells nd.cells.toArray 41)).heap.size = w.heap.size + 3 := by simp
  obtain ⟨W0, hW0⟩ : ∃ W0, (((w.alloc (.cells nd.cells.toArray 41)).alloc (.cells #[.slice none 0 0] 32)).alloc (.cells nd.cells.toArray 41)) = W0 := ⟨_, rfl⟩
  rw [hW0] at hN0 hR0 hB0 hsz ⊢
  clear hW0 hX HX
  have hrow0 : ∀ r, rowB W0 (w.heap.size + 1) = some r → r < W0.heap.size ∧ r ≠ w.heap.size + 1 + 1 := fun r h => by rw [rowB_boxed hR0] at h; simp [Value.ownBlock] at h
  have HLEN := Lib.hid (all_len nd hf)
  refine wpIn_rangeFunc_ownH rfl (by omega) (gf := 33) (lb := #[.pointer (some ⟨w.heap.size + 1 + 1, 0, none⟩)]) rfl trivial (enters_of Try.func33 (by kernel_rfl) rfl)
    (each_stops 7 (by omega) (w.heap.size + 1 + 1) (w.heap.size + 1) w W0 nd hn hf hB0 hN0 (by omega) (by omega) hrow0) KpR.trans (KpR.putObj (by omega) (by omega)) (Below.refl _ _) (fun _ => rfl)
    (fun pre W => Got (w.heap.size + 1) (w.heap.size + 3) id pre W ∧ Below w.heap.size w W ∧ w.heap.size + 3 ≤ W.heap.size)
    (fun _ _ _ => False)
    (OwnFrom.and (Go.Own.from (got_own _ _ _) _) (OwnFrom.and (ownFrom_below (Nat.le_refl _) (by omega)) (size_own _ _)))
    (fun _ _ _ _ _ hs _ _ => hs)
    ⟨⟨_, hR0, World.ownsRow_nil _ _ _ _, trivial⟩, hB0, by omega⟩
    (fun x a' W => ∃ Bp, w.heap.size + 2 < Bp ∧ Blk W Bp x.cells ∧ a' = { tmps := #[.agg nd.cells.toArray, .pointer (some ⟨w.heap.size, 0, none⟩), .slice none 0 0, .pointer (some ⟨w.heap.size + 1, 0, none⟩), .pointer (some ⟨Bp, 0, none⟩), .agg nd.cells.toArray, .func (.func 33) #[] #[.pointer (some ⟨w.heap.size + 1 + 1, 0, none⟩)], .agg x.cells.toArray, undef, undef, undef, undef, undef], defers := [] })
    (fun x a' _ X Y row hs hg hr => by obtain ⟨Bp, h1, h2, h3⟩ := hs; exact ⟨Bp, h1, blk_own Bp (fun (_ : Unit) => x.cells) (by simp [Pe.cells, En.cells]) () X Y row h2 hg (fun r e => (hr r e).2), h3⟩)
    ?assign ?body ?done ?stop
  case assign =>
    rintro lp pre s W K ⟨hgot, hB, hS⟩ hK
    have hZ : Blk (W.alloc (.cells ([.string ⟨#[]⟩, .int .u64 0, .int .i64 0, .int .i64 0, .int .i64 0, .string ⟨#[]⟩, .int .i64 0, .int .i64 0] : List Value).toArray 50)) W.heap.size [.string ⟨#[]⟩, .int .u64 0, .int .i64 0, .int .i64 0, .int .i64 0, .string ⟨#[]⟩, .int .i64 0, .int .i64 0] := Blk.new' rfl
    have hal : Below W.heap.size W (W.alloc (.cells ([.string ⟨#[]⟩, .int .u64 0, .int .i64 0, .int .i64 0, .int .i64 0, .string ⟨#[]⟩, .int .i64 0, .int .i64 0] : List Value).toArray 50)) := (Below.refl _ _).alloc (Nat.le_refl _) _
    have HK := Lib.hid hK; have HI := Lib.hid (And.intro hgot (And.intro hB hS)); have HZ := Lib.hid hZ; have HAL := Lib.hid hal
    clear hK hgot hB hS hZ hal hN0 hR0 hB0 hrow0
    simp only [encP]
    gi_wp2_with (refine stop_storeIn (ty := 50) rfl ?_)
    refine ⟨wpListIn_store_blk (by rfl) rfl HZ.out (by rfl) (vs := s.cells) (by rfl) row50 rfl (pe_one _) ?_⟩
    intro W5 hX5 hg5
    have hb5 := Below.grownB HAL.out hg5 (Nat.le_refl _) HAL.out.size
    have hI := HI.out
    gi_wp2
    obtain ⟨⟨v, hv, hrow, -⟩, hB, hS⟩ := hI
    have hvl := hv.lt
    refine HK.out _ _ ((keeps_below hb5).from _) (KpR.of_below hB.size hvl hb5) ⟨⟨v, (hb5.block _ hvl).trans hv, ((⟨hrow⟩ : Own _ _ _ _ _ _ _).later hb5).row, trivial⟩, hB.trans (hb5.mono hB.size), Nat.le_trans hS hb5.size⟩ ⟨W.heap.size, by omega, hX5, rfl⟩
  case body =>
    rintro lp pre s a' W hl ⟨r, hr⟩ ⟨⟨v, hv, hrow, -⟩, hB, hS⟩ ⟨Bp, hBp, hX, rfl⟩ hlt
    have hc := hv.cell
    have hvl := hv.lt
    have HV := Lib.hid hv; have HROW : Hid (Own W (w.heap.size + 3) 50 8 v pre.length (pre.flatMap Pe.cells)) := ⟨hrow⟩
    have HB := Lib.hid hB; have HX := Lib.hid hX; have HLT := Lib.hid hlt
    have hal2 : Below W.heap.size W (W.alloc (.cells s.cells.toArray 50)) := (Below.refl _ _).alloc (Nat.le_refl _) _
    have hN3 : Blk (W.alloc (.cells s.cells.toArray 50)) W.heap.size s.cells := Blk.new' rfl
    have HAL := Lib.hid hal2; have HN3 := Lib.hid hN3
    have HW3 : Hid (w.heap.size + 3 ≤ W.heap.size) := hS
    clear hv hrow hB hS hX hlt hal2 hN3 hl hr hN0 hR0 hB0 hrow0 hsz
    gi_wp2_with (refine stop_loadIn (ty := 50) rfl ?_)
    refine ⟨wpListIn_load_at (by rfl) rfl HX.out.at_ (by rfl) row50 ?_⟩
    have hlc := cells_8 s
    gi_wp2_with (refine stop_appendIn rfl ?_)
    rw [fold_pe s]
    clear hlc
    have hlen := HLEN.out; have hlt := HLT.out
    refine ⟨wpListIn_app_at el32 rfl rfl (by rfl) (HROW.out.later HAL.out) (by rfl) (m := 1) rfl HN3.out.cells (pe_one s) (by omega) (by simp [maxLen]; omega) (by omega) (Nat.le_trans HW3.out HAL.out.size) ?_⟩
    intro g cap W7 hO7 hg7 hat
    obtain ⟨hv7, hv8, hO8, hko, hkp⟩ := appended_kp (n₀ := w.heap.size) HV.out (by decide) HROW.out (by omega) (by omega) HB.out.size HAL.out hg7 hat hO7
    have c7 := hv7.cell; have f7 := hv7.frozen; have l7 := hv7.lt
    have HV8 := Lib.hid hv8; have HO8 := Lib.hid hO8; have HKO := Lib.hid hko; have HKP := Lib.hid hkp
    clear hv7 hv8 hO8 hko hkp hO7 hg7 hat hc hvl hlen hlt
    gi_wp2
    exact ⟨HKO.out.from _, HKP.out, ⟨_, HV8.out, by simpa using HO8.out.row, trivial⟩, HB.out.trans HKP.out.below, Nat.le_trans HW3.out HKP.out.below.size⟩
  case done =>
    rintro D ys W hD rfl ⟨⟨v, hv, hrow, -⟩, hB, hS⟩ hK
    have hc := hv.cell; have hvl := hv.lt
    have HROW : Hid (W.ownsRow (w.heap.size + 3) 50 8 v (allD nd).length ((allD nd).flatMap Pe.cells)) := hrow
    clear hv hrow hN0 hR0 hrow0
    gi_wp2
    refine ⟨by simp, .inl ⟨_, _, rfl, run_takeDeferred hK, ?_⟩⟩
    exact ⟨v, by simp [results, Try.results15, go_sem], v, rfl, ⟨(Own.mono ⟨ownsRow_putObj HROW.out _ hK rfl⟩ (by omega)).row⟩, hB.trans (belowK_b (w := w) (Nat.le_refl _) W D _ _ (by omega) hK rfl rfl)⟩
  case stop =>
    rintro D c' pre W hD _ h _
    exact h.elim
end Go.Proofs.Ythdkgcmoagookaa
