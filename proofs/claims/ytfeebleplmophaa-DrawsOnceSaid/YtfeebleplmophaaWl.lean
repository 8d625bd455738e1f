/-
  The law's walk: none is drawn twice.
-/
import Derived.Test.YtfeebleplmophaaWr
namespace Go.Proofs.Ytfeebleplmophaa
open Go.RowKit
set_option maxHeartbeats 2000000
set_option maxRecDepth 20000
set_option linter.unusedVariables false
set_option linter.unusedSimpArgs false

/-- what is drawn so far, and what is yet to come -/
structure Ones (s : St) (A : List Nat) : Prop where
  inv : Inv s
  sub : ∀ x ∈ A, x ∈ s.S
  out : ∀ x ∈ A, x ∉ s.L
  nd : s.L.Nodup
theorem Ones.lay {s : St} (h : Ones s []) (n : Nat) (hn : n < 18446744073709551616) : Ones ⟨layS s.S n, layL s.S s.L n, s.nx⟩ [] := by
  refine ⟨h.inv.lay n hn, (fun x hx => by cases hx), (fun x hx => by cases hx), ?_⟩
  show (layL s.S s.L n).Nodup
  unfold layL
  by_cases h0 : n = 0
  · rw [if_pos h0]; exact h.nd
  · rw [if_neg h0]
    by_cases h1 : n ∈ s.S
    · rw [if_pos h1]; exact h.nd
    · rw [if_neg h1]
      refine List.nodup_append.2 ⟨h.nd, by simp, fun a ha b hb e => ?_⟩
      rw [List.mem_singleton.1 hb] at e
      exact h1 (e ▸ h.inv.sub a ha)
theorem Ones.next {s : St} {A : List Nat} (h : Ones s A) (hS : s.S.length ≤ 1000000) : s.nextX ∉ A ∧ s.nextX ≠ 0 ∧ s.nextX ∈ s.next.S ∧ Ones s.next (A ++ [s.nextX]) := by
  have hi := h.inv.next hS
  obtain ⟨S, L, nx⟩ := s
  obtain ⟨h1, h2, h3, h4⟩ := h
  cases L with
  | cons x r =>
    have hx : x ∈ S := h1.sub x (by simp)
    obtain ⟨h5, h6⟩ := List.nodup_cons.1 h4
    refine ⟨fun hm => h3 x hm (by simp), h1.nz x hx, hx, hi, fun y hy => ?_, fun y hy => ?_, h6⟩
    · rcases List.mem_append.1 hy with e | e
      · exact h2 y e
      · rw [List.mem_singleton.1 e]; exact hx
    · rcases List.mem_append.1 hy with e | e
      · exact fun hr => h3 y e (List.mem_cons_of_mem _ hr)
      · rw [List.mem_singleton.1 e]; exact h5
  | nil =>
    have hf := fresh_is S nx
    have hg := h1.ge
    refine ⟨fun hm => hf.out (h2 _ hm), ?_, ?_, hi, fun y hy => ?_, (fun y _ hy => by cases hy), List.nodup_nil⟩
    · have := hf.le; show fresh S nx ≠ 0; simp only at hg; omega
    · show fresh S nx ∈ S ++ [fresh S nx]; simp
    · show y ∈ S ++ [fresh S nx]
      rcases List.mem_append.1 hy with e | e
      · exact List.mem_append_left _ (h2 y e)
      · rw [List.mem_singleton.1 e]; show fresh S nx ∈ _; simp
theorem lay_seen {S L : List Nat} {n : Nat} (h0 : n ≠ 0) (h1 : n ∈ S) : layC S n = 35 ∧ layS S n = S ∧ layL S L n = L := by
  simp [layC, layS, layL, h0, h1]
/-- the pool, and the row of what is drawn -/
structure OnceE (w wr : World) (p : Nat) (s : St) (A : List Nat) (v : Value) (o og om : Option Nat) : Prop where
  pool : Pool wr p og om s.S s.L s.nx
  bel : Below w.heap.size w wr
  pge : ∀ k ∈ foot p og om, w.heap.size ≤ k
  que : Que wr v o A
  ge : ∀ g, o = some g → w.heap.size ≤ g
  ap : ∀ g, o = some g → g ∉ foot p og om
def OnceSt (w wr : World) (p : Nat) (s : St) (A : List Nat) (v : Value) (o : Option Nat) : Prop := ∃ og om, OnceE w wr p s A v o og om
section
variable {w wr w1 w2 : World} {p : Nat} {s : St} {A : List Nat} {v : Value} {o : Option Nat}
theorem OnceSt.bel (h : OnceSt w wr p s A v o) : Below w.heap.size w wr := by obtain ⟨_, _, h⟩ := h; exact h.bel
theorem OnceSt.que (h : OnceSt w wr p s A v o) : Que wr v o A := by obtain ⟨_, _, h⟩ := h; exact h.que
theorem OnceSt.start (h : Live w wr p s.S s.L s.nx) : OnceSt w wr p s [] (.slice none 0 0) none := by
  obtain ⟨og, om, h1, h2, h3⟩ := h
  exact ⟨og, om, h1, h2, h3, Que.nil _, (fun g e => by cases e), (fun g e => by cases e)⟩
theorem OnceSt.below (h : OnceSt w wr p s A v o) (hb : Below wr.heap.size wr w1) : OnceSt w w1 p s A v o := by
  obtain ⟨og, om, h1, h2, h3, h4, h5, h6⟩ := h
  exact ⟨og, om, h1.kept (F := []) (Kept.of_below hb) (fun x _ hx => by cases hx), below_step h2 hb, h3, h4.kept (F := []) (Kept.of_below hb) (fun x _ hx => by cases hx), h5, h6⟩
theorem OnceE.to {og om : Option Nat} (h : OnceE w wr p s A v o og om) {S L : List Nat} {nx : Nat} (hp : PoolTo wr p og om S L nx w1) : OnceSt w w1 p ⟨S, L, nx⟩ A v o := by
  obtain ⟨h1, h2, h3, h4, h5, h6⟩ := h
  obtain ⟨og', om', p1, p2, p3, p4, p5, p6⟩ := hp.below h2 h2.size h3
  refine ⟨og', om', p1, p2, p3, h4.kept p4 h6, h5, fun g hg hx => ?_⟩
  rcases foot_new p5 p6 g hx with e | e
  · exact h6 g hg e
  · have := h4.lt g hg; omega
theorem OnceSt.app (h : OnceSt w wr p s A v o) {A' : List Nat} {v' : Value} {o' : Option Nat} (hq : Que w2 v' o' A') (hk : Kept o.toList wr w2) (hn : New wr o o') : OnceSt w w2 p s A' v' o' := by
  obtain ⟨og, om, h1, h2, h3, h4, h5, h6⟩ := h
  have hl := h1.lt
  have hs := h2.size
  refine ⟨og, om, h1.kept hk (fun x hx hx2 => h6 x (by simpa using hx2) hx), hk.below h2 hs (fun x hx => h5 x (by simpa using hx)), h3, hq, fun g hg => ?_, fun g hg hx => ?_⟩
  · rcases hn g hg with e | e
    · exact h5 g e
    · omega
  · rcases hn g hg with e | e
    · exact h6 g e hx
    · have := hl g hx; omega
theorem OnceSt.num {oa : Option Addr} {n c j : Nat} (h : OnceSt w wr p s A (.slice oa n c) o) (hj : j < A.length) : ∃ b f, oa = some ⟨b, f, none⟩ ∧ b < wr.heap.size ∧ wr.cell? ⟨b, f + j, none⟩ = some (.int .u64 (A[j] : Nat)) := by
  obtain ⟨oa', c', e, _, _, hc, _⟩ := h.que.cells
  cases e
  exact hc.num hj
theorem next_once (h : OnceSt w wr p s A v o) (hi : Inv s) (hS : s.S.length ≤ 1000000) :
    Calls Try.prog 9 #[.pointer (some ⟨p, 0, none⟩)] wr fun e w' => e = .returned (.int .u64 s.nextX) ∧ OnceSt w w' p s.next A v o := by
  obtain ⟨og, om, h⟩ := h
  refine (next9 p og om s wr h.pool hi hS).mono ?_
  rintro e w' ⟨rfl, hp⟩
  exact ⟨rfl, h.to hp⟩
theorem seen_once (h : OnceSt w wr p s A v o) (n : Nat) (hn : n < 18446744073709551616) (hm : n ∈ s.S) :
    Calls Try.prog 14 #[.pointer (some ⟨p, 0, none⟩), .int .u64 n] wr fun e w' => e = .returned (.bool true) ∧ OnceSt w w' p s A v o := by
  have h0 := h
  obtain ⟨og, om, h⟩ := h
  refine (seen14 p og om s.S s.L s.nx n wr h.pool hn).mono ?_
  rintro e w' ⟨rfl, hb⟩
  exact ⟨by rw [decide_eq_true hm], h0.below hb⟩
theorem lay_once (h : OnceSt w wr p s A v o) (n : Nat) (hn : n < 18446744073709551616) (h0 : n ≠ 0) (hm : n ∈ s.S) (hS : s.S.length ≤ 1000000) (hL : s.L.length ≤ 1000000) :
    Calls Try.prog 7 #[.pointer (some ⟨p, 0, none⟩), .int .u64 n] wr fun e w' => e = .returned (.int .i64 35) ∧ OnceSt w w' p s A v o := by
  obtain ⟨og, om, h⟩ := h
  refine (lay7 p og om s.S s.L s.nx n wr h.pool hn hS hL).mono ?_
  obtain ⟨e1, e2, e3⟩ := lay_seen (L := s.L) h0 hm
  rw [e1, e2, e3]
  rintro e w' ⟨rfl, hp⟩
  exact ⟨rfl, h.to hp⟩
end
theorem nus (l : List Nu) : l.flatMap Nu.cells = (l.map Nu.n).map UV := by
  induction l with
  | nil => rfl
  | cons a l ih => rw [List.flatMap_cons, ih]; rfl
theorem layL_len (S L : List Nat) (n : Nat) : (layS S n).length ≤ S.length + 1 ∧ (layL S L n).length ≤ L.length + 1 := by
  unfold layS layL
  by_cases h0 : n = 0
  · rw [if_pos h0, if_pos h0]; omega
  · rw [if_neg h0, if_neg h0]
    by_cases h1 : n ∈ S
    · rw [if_pos h1, if_pos h1]; omega
    · rw [if_neg h1, if_neg h1]; simp
theorem once4 (l : List Nat) (many : UInt8) (w : World) (oa0 : Option Addr) (c : Nat) (h : Cells w oa0 (l.map UV)) (hu : ∀ n ∈ l, n < 18446744073709551616) :
    Calls Try.prog 4 #[.slice oa0 l.length c, .int .u8 many.toNat] w fun r w' => r = .returned (.bool true) ∧ Below w.heap.size w w' := by
  have H := Lib.hid h; have HU := Lib.hid hu
  clear h hu
  by_cases hl : (40 : Int) < (l.length : Int)
  · go_enter Try.func4, Try.ntmps4
    go_wp2_with fail
    refine (works5 _).mono ?_
    rintro r w1 ⟨rfl, hb⟩
    have HB := Lib.hid hb
    clear hb
    go_wp2
    refine bodyPost_ret (v := .bool true) (by simp [results, Try.results4, go_sem]) rfl ⟨rfl, HB.out⟩
  have HL : Hid (l.length ≤ 40) := by show _ ≤ _; omega
  go_enter Try.func4, Try.ntmps4
  go_wp2_with fail
  refine (works5 _).mono ?_
  rintro r w0 ⟨rfl, hb⟩
  have HB := Lib.hid hb
  clear hb
  go_wp2_with fail
  refine (new_live HB.out).mono ?_
  rintro r w1 ⟨rfl, hP⟩
  have HP0 := Lib.hid (show Live w w1 w0.heap.size (⟨[], [], 9223372036854775808⟩ : St).S (⟨[], [], 9223372036854775808⟩ : St).L (⟨[], [], 9223372036854775808⟩ : St).nx from hP)
  have HO0 : Hid (Ones ⟨[], [], 9223372036854775808⟩ []) := Lib.hid ⟨⟨Nat.le_refl _, fun k h1 h2 => by simp only at h2; omega, fun x hx => (by cases hx), fun x hx => (by cases hx), fun x hx => (by cases hx)⟩, (fun x hx => by cases hx), (fun x hx => by cases hx), List.nodup_nil⟩
  obtain ⟨p, hp⟩ : ∃ p, w0.heap.size = p := ⟨_, rfl⟩
  rw [hp] at HP0 ⊢
  clear hP hp HB
  go_wp2_with fail
  go_loopw [20] (fun u wr => ∃ k : Nat, k ≤ l.length ∧ u = .int .i64 k ∧ ∃ s : St, Hid (Live w wr p s.S s.L s.nx) ∧ Hid (Ones s [] ∧ s.S.length ≤ k ∧ s.L.length ≤ k)) (fun u _ => l.length - (intOf u).toNat)
  case atStart => exact ⟨0, by omega, rfl, _, HP0, Lib.hid ⟨HO0.out, Nat.le_refl _, Nat.le_refl _⟩⟩
  case round =>
    obtain ⟨k, hk, rfl, s, hB, hF⟩ := hrel
    by_cases hlt : k < l.length
    · have hk5 : (k : Int) < (l.length : Int) := by omega
      have rk : IntKind.i64.wrap ((k : Int) + 1) = ((k + 1 : Nat) : Int) := by rw [IntKind.wrap_i64]; omega
      obtain ⟨b1, p1, rfl, hb1, hd1⟩ := (H.out.below hB.out.bel (Nat.le_refl _)).num hlt
      have hdn0 := HU.out l[k] (List.getElem_mem hlt)
      have HLT := Lib.hid hlt
      obtain ⟨n, hdn, hc1⟩ : ∃ n : Nat, n < 18446744073709551616 ∧ wr.cell? ⟨b1, p1 + k, none⟩ = some (.int .u64 (n : Int)) := ⟨l[k], hdn0, hd1⟩
      have HDN := Lib.hid hdn
      clear hdn hdn0 hd1 hlt
      have HKL : Hid (k ≤ 40) := by show _ ≤ _; have h2 := HL.out; omega
      clear hk
      obtain ⟨wA, rfl⟩ : ∃ q, q = wr := ⟨_, rfl⟩
      go_wp2_with fail
      clear hc1
      refine (lay_live hB.out n HDN.out (by have h1 := hF.out.2.1; have h2 := HKL.out; omega) (by have h1 := hF.out.2.2; have h2 := HKL.out; omega)).mono ?_
      rintro r w2 ⟨rfl, hP⟩
      have HP := Lib.hid hP
      clear hP
      go_wp2_with fail
      go_roundw
      case measure => have := HLT.out; simp [intOf]; omega
      case rel =>
        have hlen := layL_len s.S s.L n
        exact ⟨k + 1, by have := HLT.out; omega, rfl, ⟨layS s.S n, layL s.S s.L n, s.nx⟩, HP, Lib.hid ⟨hF.out.1.lay n HDN.out, by have h1 := hF.out.2.1; show (layS s.S n).length ≤ _; omega, by have h1 := hF.out.2.2; show (layL s.S s.L n).length ≤ _; omega⟩⟩
    · obtain rfl : k = l.length := by omega
      clear hlt hk hl
      have HQ0 : Hid (OnceSt w wr p s [] (.slice none 0 0) none) := Lib.hid (OnceSt.start hB.out)
      have hSb : s.S.length ≤ 40 := by have h1 := hF.out.2.1; have h2 := HL.out; omega
      have hLb : s.L.length ≤ 40 := by have h1 := hF.out.2.2; have h2 := HL.out; omega
      have HSL := Lib.hid (And.intro hSb hLb)
      have HO := Lib.hid hF.out.1
      obtain ⟨M, hM8, hM⟩ : ∃ M : Nat, M < 80 ∧ (many.toNat : Int) % 80 = (M : Int) := ⟨many.toNat % 80, by omega, by omega⟩
      have HM80 := Lib.hid hM8
      clear hF hB hSb hLb hM8
      have hM2 : IntKind.i64.wrap (M : Int) = (M : Int) := by rw [IntKind.wrap_i64]; have := HM80.out; omega
      go_wp2_with fail
      clear hM hM2
      go_loopw [8, 31] (fun v u wr => ∃ k : Nat, k ≤ M ∧ u = .int .i64 k ∧ ∃ s A o, Hid (OnceSt w wr p s A v o) ∧ Hid (Ones s A ∧ A.length = k ∧ s.S.length ≤ 40 + k ∧ s.L.length ≤ 40)) (fun _ u _ => M - (intOf u).toNat)
      case atStart => exact ⟨0, Nat.zero_le _, rfl, s, [], none, HQ0, Lib.hid ⟨HO.out, rfl, HSL.out.1, HSL.out.2⟩⟩
      case round =>
        clear HQ0 HO HSL
        obtain ⟨k, hk, rfl, s, A, o, hQ, hF⟩ := hrel
        obtain ⟨oa8, c8, e8, -⟩ := hQ.out.que.cells
        rw [hF.out.2.1] at e8
        subst e8
        by_cases hlt : k < M
        · have hk5 : (k : Int) < (M : Int) := by omega
          have rk : IntKind.i64.wrap ((k : Int) + 1) = ((k + 1 : Nat) : Int) := by rw [IntKind.wrap_i64]; have := HM80.out; omega
          have HLT := Lib.hid hlt
          have hAk := hF.out.2.1
          have hSb : s.S.length ≤ 1000000 := by have h1 := hF.out.2.2.1; have h2 := HM80.out; omega
          have hLb : s.L.length ≤ 1000000 := by have h1 := hF.out.2.2.2; omega
          have hnl := s.next_len
          obtain ⟨hxA, hx0, hxS, hO2⟩ := hF.out.1.next hSb
          have hxl := hF.out.1.inv.nextX_lt hSb
          have HX : Hid (s.nextX ∉ A ∧ s.nextX ≠ 0 ∧ s.nextX ∈ s.next.S ∧ Ones s.next (A ++ [s.nextX]) ∧ s.nextX < 18446744073709551616) := Lib.hid ⟨hxA, hx0, hxS, hO2, hxl⟩
          have HN : Hid (A.length = k ∧ s.next.S.length ≤ 40 + (k + 1) ∧ s.next.L.length ≤ 40 ∧ k < 80) := Lib.hid ⟨hAk, by have h1 := hF.out.2.2.1; omega, by have h1 := hF.out.2.2.2; omega, by have := HM80.out; omega⟩
          have HNE := next_once hQ.out hF.out.1.inv hSb
          obtain ⟨x, hx⟩ : ∃ x, s.nextX = x := ⟨_, rfl⟩
          obtain ⟨s', hs'⟩ : ∃ x, s.next = x := ⟨_, rfl⟩
          rw [hx, hs'] at HX HNE
          rw [hs'] at HN
          have HNE := Lib.hid HNE
          clear hxA hx0 hxS hO2 hxl hAk hSb hLb hnl hx hs' hk hlt hQ hF s
          go_wp2_with fail
          refine HNE.out.mono ?_
          rintro r w2 ⟨rfl, hQ⟩
          have HQ := Lib.hid hQ
          clear hQ HNE
          go_wp2_with fail
          go_loopw [37] (fun u wr => ∃ j : Nat, j ≤ k ∧ u = .int .i64 j ∧ wr = w2) (fun u _ => k - (intOf u).toNat)
          case atStart => exact ⟨0, Nat.zero_le _, rfl, rfl⟩
          case round =>
            obtain ⟨j, hj, rfl, rfl⟩ := hrel
            by_cases hlj : j < k
            · have hk6 : (j : Int) < (k : Int) := by omega
              have rj : IntKind.i64.wrap ((j : Int) + 1) = ((j + 1 : Nat) : Int) := by rw [IntKind.wrap_i64]; have := HN.out.2.2.2; omega
              have hjA : j < A.length := by rw [HN.out.1]; exact hlj
              obtain ⟨b1, p1, rfl, hb1, hc1⟩ := HQ.out.num hjA
              have hne : ¬ ((A[j] : Nat) : Int) = (x : Int) := fun e => HX.out.1 (by have e' : A[j] = x := by omega
                                                                                     rw [← e']; exact List.getElem_mem hjA)
              obtain ⟨z, hnz, hcz⟩ : ∃ z : Nat, ¬ (z : Int) = (x : Int) ∧ wr.cell? ⟨b1, p1 + j, none⟩ = some (.int .u64 (z : Int)) := ⟨A[j], hne, hc1⟩
              clear hne hc1 hjA
              go_wp2_with fail
              refine ⟨?_, ?_⟩
              · exact ⟨j + 1, by omega, rfl, trivial⟩
              · (simp [intOf]) <;> omega
            · obtain rfl : j = k := by omega
              clear hlj hj
              have hx0 : ¬ (x : Int) = 0 := by have := HX.out.2.1; omega
              go_wp2_with fail
              refine (seen_once HQ.out x HX.out.2.2.2.2 HX.out.2.2.1).mono ?_
              rintro r w3 ⟨rfl, hQ3⟩
              have HQ3 := Lib.hid hQ3
              clear hQ3 HQ
              go_wp2_with fail
              refine (lay_once HQ3.out x HX.out.2.2.2.2 HX.out.2.1 HX.out.2.2.1 (by have := HN.out.2.1; have := HN.out.2.2.2; omega) (by have := HN.out.2.2.1; omega)).mono ?_
              rintro r w4 ⟨rfl, hQ4⟩
              have HQ4 := Lib.hid (hQ4.below ((Below.refl w4.heap.size w4).alloc (Nat.le_refl _) (.cells #[UV x] 30)))
              clear hQ4 HQ3
              go_wp2_with (refine stop_append rfl ?_)
              refine ⟨wpList_que rfl _ _ rfl (by rfl) HQ4.out.que (by have := HN.out.1; have := HN.out.2.2.2; omega) (by rfl) (Cells.new (cs := [UV x])) ?_⟩
              intro v' w5 o5 hq5 hk5 hn5
              have HQ5 := Lib.hid (HQ4.out.app hq5 hk5 hn5)
              clear hq5 hk5 hn5
              go_wp2_with fail
              refine ⟨?_, ?_⟩
              · exact ⟨j + 1, HLT.out, rfl, s', A ++ [x], o5, HQ5, Lib.hid ⟨HX.out.2.2.2.1, by rw [List.length_append, HN.out.1]; rfl, HN.out.2.1, HN.out.2.2.1⟩⟩
              · have := HLT.out; (simp [intOf]) <;> omega
        · obtain rfl : k = M := by omega
          have HB := Lib.hid hQ.out.bel
          clear hQ hF hlt hk
          go_wp2
          refine bodyPost_ret (v := .bool true) (by simp [results, Try.results4, go_sem]) rfl ⟨rfl, HB.out⟩
theorem drawsOnce4 (l : List Nu) (many : UInt8) (w : World) (oa0 : Option Addr) (n c : Nat) (h : RowsOf Nu.cells w oa0 n l) (hu : ∀ d ∈ l, d.n < 18446744073709551616) :
    Calls Try.prog 4 #[.slice oa0 n c, .int .u8 many.toNat] w fun r w' => r = .returned (.bool true) ∧ Below w.heap.size w w' := by
  obtain rfl : n = l.length := h.len
  have hc := h.cells
  rw [nus] at hc
  have := once4 (l.map Nu.n) many w oa0 c hc (fun m hm => by obtain ⟨d, hd, rfl⟩ := List.mem_map.1 hm; exact hu d hd)
  rwa [List.length_map] at this
end Go.Proofs.Ytfeebleplmophaa
