/-
  Walks: how great entries and peers are, distances, who lies before a node.
-/
import Derived.Test.YtpefeoneafddkaaRows
import Derived.Test.YtpefeoneafddkaaApi
import Derived.Test.YtpefeoneafddkaaShelf
namespace Go.Proofs.Ytpefeoneafddkaa
open Go.RowKit
set_option maxHeartbeats 400000
set_option linter.unusedVariables false
set_option linter.unusedSimpArgs false

def greatE (e : Ent) : Bool := decide (1000 < e.name.size) || decide (1000 < e.tag.size)

theorem great11 (e : Ent) (w : World) : Calls Try.prog 6 #[.agg #[.string e.name, .int .u64 (e.id.toNat : Int), .int .i64 e.frm, .int .i64 e.til, .int .i64 e.idx, .string e.tag]] w fun r w' => r = .returned (.bool (greatE e)) ∧ Below w.heap.size w w' := by
  have hd : greatE e = (decide ((1000 : Int) < (e.name.size : Int)) || decide ((1000 : Int) < (e.tag.size : Int))) := by
    unfold greatE; congr 1 <;> (rw [decide_eq_decide]; omega)
  have HD := Lib.hid hd; clear hd
  by_cases h1 : (1000 : Int) < (e.name.size : Int)
  all_goals
    go_enter Try.func6, Try.ntmps6
    go_wp2
    go_ret
    refine ⟨congrArg (fun x => Ending.returned (.bool x)) ?_, (Below.refl _ _).alloc (Nat.le_refl _) _⟩
    rw [HD.out]
    simp [h1]
    try omega

def greatL (l : List Peer) : Bool := decide (40 < l.length) || l.any fun p => greatE p.ent

theorem great24 (oa : Option Addr) (n c : Nat) (l : List Peer) (w : World) (h : RowsOf Peer.cells w oa n l) :
    Calls Try.prog 5 #[.slice oa n c] w fun r w' => r = .returned (.bool (greatL l)) ∧ Below w.heap.size w w' := by
  obtain ⟨hl, -⟩ := id h
  have HL := Lib.hid hl; clear hl
  by_cases h1 : (40 : Int) < (n : Int)
  · go_enter Try.func5, Try.ntmps5
    go_wp2
    go_ret
    refine ⟨congrArg (fun x => Ending.returned (.bool x)) ?_, Below.refl _ _⟩
    have : 40 < l.length := by have := HL.out; omega
    simp [greatL, this]
  · have hn : n ≤ 40 := by omega
    have H := Lib.hid h; clear h
    go_enter Try.func5, Try.ntmps5
    go_wp2
    go_loopw [3] (fun i wr => ∃ k : Nat, k ≤ n ∧ i = .int .i64 k ∧ (l.take k).any (fun p => greatE p.ent) = false ∧ Below w.heap.size w wr) (fun i _ => n - (intOf i).toNat)
    case atStart => exact ⟨0, by omega, rfl, rfl, Below.refl _ _⟩
    case round =>
      obtain ⟨k, hk, rfl, hz, hbel⟩ := hrel
      have HZ := Lib.hid hz; clear hz
      by_cases hlt : k < n
      · have hkl : k < l.length := by have := HL.out; omega
        obtain ⟨b, o, rfl, hb, g0, g1, g2, g3, g4, g5, g6, g7⟩ := (H.out.below hbel).peer hkl
        have HBEL := Lib.hid hbel; clear hbel H
        have HS : Hid ((l.take (k + 1)).any (fun p => greatE p.ent) = greatE l[k].ent) := by
          show _ = _
          rw [List.take_succ_eq_append_getElem hkl, List.any_append, HZ.out]; simp
        generalize l[k].ent = p at *
        go_wp2_with fail
        refine (great11 p _).mono ?_
        rintro r w2 ⟨rfl, hb2⟩
        have HB2 := Lib.hid (HBEL.out.trans (hb2.mono HBEL.out.size)); clear hb2
        by_cases hg : greatE p = true
        · go_wp2
          go_ret
          refine ⟨congrArg (fun x => Ending.returned (.bool x)) ?_, HB2.out⟩
          have : l.any (fun p => greatE p.ent) = true := by
            rw [List.any_eq_true]
            have h2 := HS.out
            rw [hg, List.any_eq_true] at h2
            obtain ⟨x, hx, hx2⟩ := h2
            exact ⟨x, List.mem_of_mem_take hx, hx2⟩
          simp [greatL, this]
        · have hg2 : greatE p = false := by simpa using hg
          clear hg
          have HG := Lib.hid hg2
          go_wp2
          go_roundw
          case rel => exact ⟨k + 1, by omega, by go_num, by rw [HS.out]; exact HG.out, HB2.out⟩
          case measure => simp [intOf]; omega
      · go_wp2
        go_ret
        refine ⟨congrArg (fun x => Ending.returned (.bool x)) ?_, hbel⟩
        have e1 : l.take k = l := List.take_of_length_le (by have := HL.out; omega)
        have e2 := HZ.out
        rw [e1] at e2
        have : ¬ 40 < l.length := by have := HL.out; omega
        simp [greatL, this, e2]

/-- how far one place lies ahead of another one -/
def dist (a b : UInt64) : UInt64 := b - a

theorem wrap_sub_u64 (a b : UInt64) : IntKind.u64.wrap ((b.toNat : Int) - (a.toNat : Int)) = ((b - a).toNat : Int) := by
  rw [IntKind.wrap_u64, UInt64.toNat_sub]
  have ha := a.toNat_lt; have hb := b.toNat_lt
  omega

theorem dist16 (a b : UInt64) (w : World) : Calls Try.prog 16 #[.int .u64 (a.toNat : Int), .int .u64 (b.toNat : Int)] w fun r w' => r = .returned (.int .u64 ((dist a b).toNat : Int)) ∧ w' = w := by
  have hw := wrap_sub_u64 a b
  have HW := Lib.hid hw; clear hw
  generalize a.toNat = x at *
  generalize b.toNat = y at *
  go_enter Try.func16, Try.ntmps16
  go_wp2
  go_ret
  exact ⟨congrArg (fun x => Ending.returned (.int .u64 x)) HW.out, rfl⟩

theorem dist15 (a b : UInt64) (w : World) : Calls Try.prog 15 #[.int .u64 (a.toNat : Int), .int .u64 (b.toNat : Int)] w fun r w' => r = .returned (.int .u64 ((dist a b).toNat : Int)) ∧ w' = w := by
  have hw := wrap_sub_u64 a b
  have HW := Lib.hid hw; clear hw
  have ha := Lib.hid a.toNat_lt; have hb := Lib.hid b.toNat_lt
  have hd : dist a b = b - a := rfl
  rw [hd]
  generalize (b - a).toNat = d at *
  generalize a.toNat = x at *
  generalize b.toNat = y at *
  by_cases h : (x : Int) ≤ (y : Int)
  · go_enter Try.func15, Try.ntmps15
    go_wp2
    go_ret
    exact ⟨congrArg (fun x => Ending.returned (.int .u64 x)) HW.out, rfl⟩
  · go_enter Try.func15, Try.ntmps15
    go_wp2
    go_ret
    refine ⟨congrArg (fun x => Ending.returned (.int .u64 x)) ?_, rfl⟩
    show IntKind.u64.wrap (IntKind.u64.wrap (IntKind.u64.wrap (18446744073709551615 - (x : Int)) + (y : Int)) + 1) = _
    rw [← HW.out]
    simp only [IntKind.wrap_u64]
    omega

/-- the identifier that lies behind a node -/
def beforeL (me : Ent) (l : List Peer) : UInt64 := ((l.getLast?).map (·.ent.id)).getD me.id

theorem before17 (me : Ent) (oa : Option Addr) (n c : Nat) (l : List Peer) (w : World) (h : RowsOf Peer.cells w oa n l) (hn : n ≤ 140737488351232) :
    Calls Try.prog 17 #[.agg #[.string me.name, .int .u64 (me.id.toNat : Int), .int .i64 me.frm, .int .i64 me.til, .int .i64 me.idx, .string me.tag], .slice oa n c] w fun r w' => r = .returned (.int .u64 ((beforeL me l).toNat : Int)) ∧ Below w.heap.size w w' := by
  obtain ⟨hl, -⟩ := id h
  by_cases h0 : n = 0
  · subst h0
    obtain rfl : l = [] := List.eq_nil_of_length_eq_zero hl.symm
    clear h hl
    go_enter Try.func17, Try.ntmps17
    go_wp2
    go_ret
    exact ⟨rfl, (Below.refl _ _).alloc (Nat.le_refl _) _⟩
  · have hn0 : ((n : Int) == 0) = false := by rw [beq_eq_false_iff_ne]; omega
    have hlt : n - 1 < l.length := by omega
    obtain ⟨b, o, rfl, hb, g0, g1, g2, g3, g4, g5, g6, g7⟩ := h.peer hlt
    have HV : Hid (l[n - 1].ent.id = beforeL me l) := by
      show _ = _
      unfold beforeL
      have e : l.getLast? = some l[n - 1] := by
        rw [List.getLast?_eq_getElem?, ← hl, List.getElem?_eq_getElem hlt]
      rw [e]; rfl
    clear h hl g0 g2 g3 g4 g5 g6 g7
    generalize l[n - 1].ent.id = x at *
    go_enter Try.func17, Try.ntmps17
    go_wp2
    go_ret
    rw [← HV.out]
    exact ⟨rfl, (Below.refl _ _).alloc (Nat.le_refl _) _⟩

theorem before18 (me : Ent) (oa : Option Addr) (n c : Nat) (l : List Peer) (w : World) (h : RowsOf Peer.cells w oa n l) (hn : n ≤ 140737488351232) :
    Calls Try.prog 18 #[.agg #[.string me.name, .int .u64 (me.id.toNat : Int), .int .i64 me.frm, .int .i64 me.til, .int .i64 me.idx, .string me.tag], .slice oa n c] w fun r w' => r = .returned (.int .u64 ((beforeL me l).toNat : Int)) ∧ Below w.heap.size w w' := by
  obtain ⟨hl, -⟩ := id h
  have HL := Lib.hid hl; clear hl
  have H := Lib.hid h; clear h
  go_enter Try.func18, Try.ntmps18
  go_wp2
  go_loop [5, 6] (fun s i => ∃ k : Nat, k ≤ n ∧ i = .int .i64 k ∧ s = .int .u64 ((beforeL me (l.take k)).toNat : Int)) (fun _ i => n - (intOf i).toNat)
  case atStart => exact ⟨0, by omega, rfl, rfl⟩
  case round =>
    obtain ⟨k, hk, rfl, rfl⟩ := hrel
    by_cases hlt : k < n
    · have hkl : k < l.length := by have := HL.out; omega
      obtain ⟨b, o, rfl, hb, g0, g1, g2, g3, g4, g5, g6, g7⟩ := H.out.peer hkl
      have HV : Hid (beforeL me (l.take (k + 1)) = l[k].ent.id) := by
        show _ = _
        rw [List.take_succ_eq_append_getElem hkl]; unfold beforeL; rw [List.getLast?_concat]; rfl
      clear g0 g2 g3 g4 g5 g6 g7 H
      generalize l[k].ent.id = x at *
      go_wp2
      go_round
      case rel => exact ⟨k + 1, by omega, by go_num, by rw [HV.out]⟩
      case measure => simp [intOf]; omega
    · have e1 : l.take k = l := List.take_of_length_le (by have := HL.out; omega)
      rw [e1]
      go_wp2
      go_ret
      exact ⟨rfl, (Below.refl _ _).alloc (Nat.le_refl _) _⟩

end Go.Proofs.Ytpefeoneafddkaa
