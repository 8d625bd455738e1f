/-
  Walk: a list of packets copied, with their bytes.
-/
import Derived.Test.YthnfbbnpjfjaiaaWb
namespace Go.Proofs.Ythnfbbnpjfjaiaa
open Go.RowKit
set_option maxHeartbeats 1000000
set_option linter.unusedVariables false
set_option linter.unusedSimpArgs false

/-- packets in a row of the call's own, whose bytes lie in blocks of the call's own, each in another one -/
structure OwnPks (w : World) (base : Nat) (v : Value) (l : List Pk) : Prop where
  own : Own w base 25 3 v l.length (l.flatMap Pk.cells)
  len : ∀ p ∈ l, p.n = p.b.length ∧ p.n ≤ p.c ∧ p.c ≤ maxLen ∧ p.n ≤ reachBytes
  blk : ∀ p ∈ l, ∃ g, p.oa = some ⟨g, 0, none⟩ ∧ base ≤ g ∧ Blk w g (p.b.map By) ∧ v.ownBlock ≠ some g
  apart : l.Pairwise fun p q => p.oa ≠ q.oa

theorem OwnPks.nil (w : World) (base : Nat) : OwnPks w base (.slice none 0 0) [] := ⟨Own.nil _ _ _ _, by simp, by simp, List.Pairwise.nil⟩
theorem OwnPks.later {w w' : World} {base : Nat} {v : Value} {l : List Pk} (h : OwnPks w base v l) (hb : Below w.heap.size w w') : OwnPks w' base v l :=
  ⟨h.own.later hb, h.len, fun p hp => by obtain ⟨g, h1, h2, h3, h4⟩ := h.blk p hp; exact ⟨g, h1, h2, h3.later hb, h4⟩, h.apart⟩
theorem OwnPks.ok {w : World} {base : Nat} {v : Value} {l : List Pk} (h : OwnPks w base v l) : ∀ p ∈ l, p.Ok w := fun p hp => by
  obtain ⟨g, h1, -, h3, -⟩ := h.blk p hp
  obtain ⟨a, b, c, d⟩ := h.len p hp
  exact ⟨⟨a, by rw [h1]; exact h3.cells⟩, b, c, d⟩
theorem OwnPks.pks {w : World} {base : Nat} {v : Value} {l : List Pk} (h : OwnPks w base v l) : ∃ oa c, v = .slice oa l.length c ∧ Pks w oa l.length c l := by
  obtain ⟨oa, c, rfl, h1, h2, h3, -⟩ := h.own.cells
  exact ⟨oa, c, rfl, ⟨rfl, h3⟩, h1, h2, h.ok⟩
theorem OwnPks.push {w w' : World} {base : Nat} {v : Value} {l : List Pk} (h : OwnPks w base v l) {p : Pk} {g b cap : Nat} (hl : p.n = p.b.length ∧ p.n ≤ p.c ∧ p.c ≤ maxLen ∧ p.n ≤ reachBytes) (hpo : p.oa = some ⟨b, 0, none⟩) (hb : base ≤ b)
    (hB : Blk w b (p.b.map By)) (hne : v.ownBlock ≠ some b) (hnew : ∀ q ∈ l, q.oa ≠ some ⟨b, 0, none⟩)
    (hO : Own w' base 25 3 (.slice (some ⟨g, 0, none⟩) (l.length + 1) cap) (l.length + 1) (l.flatMap Pk.cells ++ p.cells)) (hg : w.grownBy w' v.ownBlock) (hgg : v.ownBlock = some g ∨ g = w.heap.size) :
    OwnPks w' base (.slice (some ⟨g, 0, none⟩) (l.length + 1) cap) (l ++ [p]) := by
  refine ⟨?_, ?_, ?_, ?_⟩
  · rw [List.length_append, List.flatMap_append]
    simpa using hO
  · intro q hq
    rcases List.mem_append.1 hq with hq | hq
    · exact h.len q hq
    · obtain rfl : q = p := by simpa using hq
      exact hl
  · have key : ∀ x, Blk w x = Blk w x → x < w.heap.size → v.ownBlock ≠ some x → (Value.slice (some ⟨g, 0, none⟩) (l.length + 1) cap).ownBlock ≠ some x := by
      intro x _ hx hx2 he
      have : g = x := by simpa [Value.ownBlock] using he
      subst this
      rcases hgg with h1 | h1
      · exact hx2 h1
      · omega
    intro q hq
    rcases List.mem_append.1 hq with hq | hq
    · obtain ⟨x, h1, h2, h3, h4⟩ := h.blk q hq
      exact ⟨x, h1, h2, h3.grown hg h4, key x rfl h3.lt h4⟩
    · obtain rfl : q = p := by simpa using hq
      exact ⟨b, hpo, hb, hB.grown hg hne, key b rfl hB.lt hne⟩
  · rw [List.pairwise_append]
    refine ⟨h.apart, List.pairwise_singleton _ _, fun q hq r hr => ?_⟩
    obtain rfl : r = p := by simpa using hr
    rw [hpo]; exact hnew q hq

/-- a copied list -/
def CopyOk (w : World) (l : List Pk) (e : Ending) (w' : World) : Prop :=
  ∃ v l', e = .returned v ∧ OwnPks w' w.heap.size v l' ∧ l'.map Pk.dat = l.map Pk.dat ∧ Below w.heap.size w w'

theorem copy11 (l : List Pk) (w : World) (oa : Option Addr) (n c : Nat) (h : Pks w oa n c l) (hl : l.length * 56 ≤ 140737488351232) :
    Calls Try.prog 11 #[.slice oa n c] w (CopyOk w l) := by
  obtain rfl : n = l.length := h.rows.len
  have H := Lib.hid h; have HL := Lib.hid hl; clear h hl
  go_enter Try.func11, Try.ntmps11
  go_wp2
  go_loopw [3, 8] (fun v i wr => ∃ (k : Nat) (l' : List Pk), k ≤ l.length ∧ i = .int .i64 k ∧ Hid (OwnPks wr w.heap.size v l') ∧ Hid (l'.map Pk.dat = (l.take k).map Pk.dat) ∧ Hid (Below w.heap.size w wr)) (fun _ i _ => l.length - (intOf i).toNat)
  case atStart => exact ⟨0, [], by omega, rfl, Lib.hid (OwnPks.nil _ _), Lib.hid rfl, by (with_reducible try refine Lib.hid ?_); (repeat (with_reducible first | assumption | exact Below.refl _ _ | apply Below.drew | apply Below.drewN' | apply Below.setCell | apply Below.alloc)) <;> (try simp [length_fillTo, length_turnTo]) <;> (try omega)⟩
  case round =>
    obtain ⟨k, l', hk, rfl, hO, hS, hbel⟩ := hrel
    by_cases hlt : k < l.length
    · have hi1 : (k : Int) < (l.length : Int) := by omega
      have rk : IntKind.i64.wrap ((k : Int) + 1) = ((k + 1 : Nat) : Int) := by
        have h1 := HL.out
        rw [IntKind.wrap_i64]; omega
      obtain ⟨b1, p1, rfl, hb1, e10, e11, e12⟩ := (H.out.rows.below hbel.out).pk hlt
      have hok := (H.out.ok _ (List.getElem_mem hlt)).below hbel.out
      have HT : Hid ((l.take (k + 1)).map Pk.dat = (l.take k).map Pk.dat ++ [l[k].dat]) := by
        show _ = _
        rw [List.take_succ_eq_append_getElem hlt, List.map_append]; rfl
      obtain ⟨q1, hq1'⟩ : ∃ q, l[k] = q := ⟨_, rfl⟩
      rw [hq1'] at e10 e11 e12 hok HT
      clear hq1'
      have hlk : l'.length = k := by have := congrArg List.length hS.out; simp at this; omega
      have HLK := Lib.hid hlk; have HLT := Lib.hid hlt; clear hlk hlt
      go_wp2_with fail
      have hal : Below wr.heap.size wr (wr.alloc (.cells #[.string q1.frm, .string q1.to, .slice q1.oa q1.n q1.c] 25)) := (Below.refl _ _).alloc (Nat.le_refl _) _
      refine (one19 q1 _ (hok.below hal)).mono ?_
      rintro r W2 ⟨b, rfl, hbge, hB, hb2⟩
      have hbb := below_step (below_step hbel.out hal) hb2
      have hO2 := (hO.out.later hal).later hb2
      have hnew : ∀ q ∈ l', q.oa ≠ some ⟨b, 0, none⟩ := by
        intro q hq e
        obtain ⟨g, h1, -, h3, -⟩ := hO.out.blk q hq
        rw [e] at h1
        have : b = g := by simpa using h1
        subst this
        have := h3.lt
        simp at hbge; omega
      have hne : u3.ownBlock ≠ some b := fun e => by
        have := (hO.out.own.row.lt b e).2
        simp at hbge; omega
      have hwb : w.heap.size ≤ b := by have := hbel.out.size; simp at hbge; omega
      have hql : q1.n = q1.b.length ∧ q1.n ≤ q1.n ∧ q1.n ≤ maxLen ∧ q1.n ≤ reachBytes := ⟨hok.reads.len, Nat.le_refl _, Nat.le_trans hok.le hok.cap, hok.small⟩
      have HBB := Lib.hid hbb; have HO2 := Lib.hid hO2; have HB := Lib.hid hB; have HNEW := Lib.hid hnew; have HQL := Lib.hid hql; have HNE := Lib.hid hne
      clear hbb hO2 hB hnew hql hne hb2 hal hok hbge hO hbel
      go_wp2_with (refine stop_append rfl ?_)
      have hO3 := HO2.out.later ((Below.refl _ _).alloc (Nat.le_refl _) (.cells [Value.string q1.frm, .string q1.to, .slice (some ⟨b, 0, none⟩) q1.n q1.n].toArray 25))
      have hB3 := HB.out.alloc (.cells [Value.string q1.frm, .string q1.to, .slice (some ⟨b, 0, none⟩) q1.n q1.n].toArray 25)
      have hN3 := Blk.new W2 [Value.string q1.frm, .string q1.to, .slice (some ⟨b, 0, none⟩) q1.n q1.n] 25
      have hb3 := HBB.out.alloc HBB.out.size (.cells [Value.string q1.frm, .string q1.to, .slice (some ⟨b, 0, none⟩) q1.n q1.n].toArray 25)
      have hlk := HLK.out; have hlt := HLT.out; have hll := HL.out
      refine ⟨wpList_plain rfl fun K hK => wp_app_at el22 (by rfl) (by rfl) hO3.own (by rfl) (m := 1) rfl hN3.cells (by simp [Value.oneCell']) (by omega) (by simp [maxLen]; omega) (by omega) hb3.size fun g cap W4 hO4 hg4 hgg => hK _ _ ?_⟩
      have hP4 := hO3.push (p := ⟨q1.frm, q1.to, some ⟨b, 0, none⟩, q1.n, q1.n, q1.b⟩) HQL.out rfl hwb hB3 HNE.out HNEW.out hO4 hg4 hgg
      have hb4 := hO3.own.below hg4 hb3 (Nat.le_refl _) hb3.size
      have HP4 := Lib.hid hP4; have HB4 := Lib.hid hb4
      clear hP4 hb4 hO3 hB3 hN3 hb3 hlk hlt hll hO4 hg4 hgg HO2 HB HBB HNEW HNE HQL
      go_wp2
      have hlk := HLK.out; have hlt := HLT.out
      go_roundw
      case measure => (simp [intOf]) <;> omega
      case rel =>
        refine ⟨k + 1, l' ++ [⟨q1.frm, q1.to, some ⟨b, 0, none⟩, q1.n, q1.n, q1.b⟩], by omega, rfl, HP4, Lib.hid ?_, HB4⟩
        rw [HT.out, List.map_append, hS.out]; rfl
    · obtain rfl : k = l.length := by omega
      have hb1 := hbel.out
      have HO := hO; have HS := hS
      clear hO hS
      go_wp2
      refine bodyPost_ret (v := u3) (by simp [results, Try.results11, go_sem]) rfl ⟨u3, l', rfl, HO.out, by have := HS.out; rwa [List.take_length] at this, hb1⟩
end Go.Proofs.Ythnfbbnpjfjaiaa
