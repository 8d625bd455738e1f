/-
  Sessions that are the same.
-/
import Derived.Test.YtmfglppgpjplfaaWf
import Derived.DeepKeys
namespace Go.Proofs.Ytmfglppgpjplfaa
open Go.RowKit Go.Proofs.Ytmfglppgpjplfaa.Plan Go.Proofs.Ytmfglppgpjplfaa.Eager
set_option maxHeartbeats 2000000
set_option maxRecDepth 20000
set_option linter.unusedVariables false
set_option linter.unusedSimpArgs false

def Ses.lits (s : Ses) : List Lit := [.int .u64 s.id, .int .u64 s.nonce, .string s.peer.name.data.toList, .int .u64 s.peer.id, .int .i64 s.peer.frm, .int .i64 s.peer.til, .int .i64 s.peer.idx, .string s.peer.tag.data.toList,
  .int .i64 s.role, .int .i64 s.state, .string s.send.data.toList, .string s.hear.data.toList, .int .i64 s.epoch, .int .i64 s.count, .int .i64 s.since, .int .i64 s.seq, .int .i64 s.top, .int .u64 s.low, .int .u64 s.high, .int .i64 s.used]
theorem data_inj {a b : ByteArray} (h : a.data.toList = b.data.toList) : a = b := by cases a; cases b; simpa using h
theorem lits_inj (s t : Ses) (h : s.lits = t.lits) : s = t := by
  obtain ⟨a0, a1, ⟨a2, a3, a4, a5, a6, a7⟩, a8, a9, a10, a11, a12, a13, a14, a15, a16, a17, a18, a19⟩ := s
  obtain ⟨b0, b1, ⟨b2, b3, b4, b5, b6, b7⟩, b8, b9, b10, b11, b12, b13, b14, b15, b16, b17, b18, b19⟩ := t
  simp only [Ses.lits, List.cons.injEq, Lit.int.injEq, Lit.string.injEq, true_and, and_true] at h
  obtain ⟨h0, h1, h2, h3, h4, h5, h6, h7, h8, h9, h10, h11, h12, h13, h14, h15, h16, h17, h18, h19⟩ := h
  have e2 := data_inj h2; have e7 := data_inj h7; have e10 := data_inj h10; have e11 := data_inj h11
  have e0 : a0 = b0 := by omega
  have e1 : a1 = b1 := by omega
  have e3 : a3 = b3 := by omega
  have e17 : a17 = b17 := by omega
  have e18 : a18 = b18 := by omega
  subst e0 e1 e2 e3 h4 h5 h6 e7 h8 h9 e10 e11 h12 h13 h14 h15 h16 e17 e18 h19
  rfl
/-- all its numbers fit -/
def Ses.Wf (s : Ses) : Prop := Try.prog.keyLits 9 30 s.cells = some s.lits
theorem key_struct {P : Program} (d : Nat) (t : TypeId) (fs : Array Field) (cs : List Value) (hu : P.underlying t = some (.struct fs)) :
    P.keyLits (d + 1) t cs = if cs.length = P.cellsOf t ∧ fs.all (·.name != "_") = true then (fs.toList.mapM fun f => P.keyLits d f.type ((cs.drop f.offset).take (P.cellsOf f.type))).map List.flatten else none := by
  simp only [Program.keyLits, hu]
theorem kI (d : Nat) (n : Int) (h : (Lit.int .i64 n).wf = true) : Try.prog.keyLits (d + 1) 3 [.int .i64 n] = some [.int .i64 n] := by
  have hu : Try.prog.underlying 3 = some (.int .i64) := by kernel_rfl
  simp [Program.keyLits, hu, h]
theorem kU (d : Nat) (n : Int) (h : (Lit.int .u64 n).wf = true) : Try.prog.keyLits (d + 1) 24 [.int .u64 n] = some [.int .u64 n] := by
  have hu : Try.prog.underlying 24 = some (.int .u64) := by kernel_rfl
  simp [Program.keyLits, hu, h]
theorem kS (d : Nat) (s : ByteArray) (h : s.size ≤ maxLen) : Try.prog.keyLits (d + 1) 9 [.string s] = some [.string s.data.toList] := by
  have hu : Try.prog.underlying 9 = some .string := by kernel_rfl
  simp only [Program.keyLits, hu]; rw [if_pos h]

theorem k26 (s : Ses) (h0 : (Lit.int .u64 s.id).wf = true) (h1 : (Lit.int .u64 s.nonce).wf = true) (h2 : s.peer.name.size ≤ maxLen) (h3 : (Lit.int .u64 s.peer.id).wf = true) (h4 : (Lit.int .i64 s.peer.frm).wf = true) (h5 : (Lit.int .i64 s.peer.til).wf = true) (h6 : (Lit.int .i64 s.peer.idx).wf = true) (h7 : s.peer.tag.size ≤ maxLen) (h8 : (Lit.int .i64 s.role).wf = true) (h9 : (Lit.int .i64 s.state).wf = true) (h10 : s.send.size ≤ maxLen) (h11 : s.hear.size ≤ maxLen) (h12 : (Lit.int .i64 s.epoch).wf = true) (h13 : (Lit.int .i64 s.count).wf = true) (h14 : (Lit.int .i64 s.since).wf = true) (h15 : (Lit.int .i64 s.seq).wf = true) (h16 : (Lit.int .i64 s.top).wf = true) (h17 : (Lit.int .u64 s.low).wf = true) (h18 : (Lit.int .u64 s.high).wf = true) (h19 : (Lit.int .i64 s.used).wf = true) : Try.prog.keyLits 8 26 [.string s.peer.name, .int .u64 s.peer.id, .int .i64 s.peer.frm, .int .i64 s.peer.til, .int .i64 s.peer.idx, .string s.peer.tag] = some [.string s.peer.name.data.toList, .int .u64 s.peer.id, .int .i64 s.peer.frm, .int .i64 s.peer.til, .int .i64 s.peer.idx, .string s.peer.tag.data.toList] := by
  have e : (((Try.prog.fieldsOf 26).toList.mapM fun f => Try.prog.keyLits 7 f.type (([.string s.peer.name, .int .u64 s.peer.id, .int .i64 s.peer.frm, .int .i64 s.peer.til, .int .i64 s.peer.idx, .string s.peer.tag].drop f.offset).take (Try.prog.cellsOf f.type))).map List.flatten) = some [.string s.peer.name.data.toList, .int .u64 s.peer.id, .int .i64 s.peer.frm, .int .i64 s.peer.til, .int .i64 s.peer.idx, .string s.peer.tag.data.toList] := by
    simp only [Program.fieldsOf, Try.underlying26, List.mapM_cons, List.mapM_nil]
    have c3 : Try.prog.cellsOf 3 = 1 := by kernel_rfl
    have c9 : Try.prog.cellsOf 9 = 1 := by kernel_rfl
    have c24 : Try.prog.cellsOf 24 = 1 := by kernel_rfl
    have c26 : Try.prog.cellsOf 26 = 6 := by kernel_rfl
    have c28 : Try.prog.cellsOf 28 = 3 := by kernel_rfl
    simp only [c3, c9, c24, c26, c28, List.drop_zero, List.drop_succ_cons, List.take_succ_cons, List.take_zero]
    simp only [kS 6 s.peer.name h2, kU 6 s.peer.id h3, kI 6 s.peer.frm h4, kI 6 s.peer.til h5, kI 6 s.peer.idx h6, kS 6 s.peer.tag h7]
    rfl
  rw [show (8 : Nat) = 7 + 1 from rfl, key_struct 7 26 (Try.prog.fieldsOf 26) _ (by kernel_rfl), if_pos ⟨by kernel_rfl, by kernel_rfl⟩]
  exact e

theorem k28 (s : Ses) (h0 : (Lit.int .u64 s.id).wf = true) (h1 : (Lit.int .u64 s.nonce).wf = true) (h2 : s.peer.name.size ≤ maxLen) (h3 : (Lit.int .u64 s.peer.id).wf = true) (h4 : (Lit.int .i64 s.peer.frm).wf = true) (h5 : (Lit.int .i64 s.peer.til).wf = true) (h6 : (Lit.int .i64 s.peer.idx).wf = true) (h7 : s.peer.tag.size ≤ maxLen) (h8 : (Lit.int .i64 s.role).wf = true) (h9 : (Lit.int .i64 s.state).wf = true) (h10 : s.send.size ≤ maxLen) (h11 : s.hear.size ≤ maxLen) (h12 : (Lit.int .i64 s.epoch).wf = true) (h13 : (Lit.int .i64 s.count).wf = true) (h14 : (Lit.int .i64 s.since).wf = true) (h15 : (Lit.int .i64 s.seq).wf = true) (h16 : (Lit.int .i64 s.top).wf = true) (h17 : (Lit.int .u64 s.low).wf = true) (h18 : (Lit.int .u64 s.high).wf = true) (h19 : (Lit.int .i64 s.used).wf = true) : Try.prog.keyLits 8 28 [.int .i64 s.top, .int .u64 s.low, .int .u64 s.high] = some [.int .i64 s.top, .int .u64 s.low, .int .u64 s.high] := by
  have e : (((Try.prog.fieldsOf 28).toList.mapM fun f => Try.prog.keyLits 7 f.type (([.int .i64 s.top, .int .u64 s.low, .int .u64 s.high].drop f.offset).take (Try.prog.cellsOf f.type))).map List.flatten) = some [.int .i64 s.top, .int .u64 s.low, .int .u64 s.high] := by
    simp only [Program.fieldsOf, Try.underlying28, List.mapM_cons, List.mapM_nil]
    have c3 : Try.prog.cellsOf 3 = 1 := by kernel_rfl
    have c9 : Try.prog.cellsOf 9 = 1 := by kernel_rfl
    have c24 : Try.prog.cellsOf 24 = 1 := by kernel_rfl
    have c26 : Try.prog.cellsOf 26 = 6 := by kernel_rfl
    have c28 : Try.prog.cellsOf 28 = 3 := by kernel_rfl
    simp only [c3, c9, c24, c26, c28, List.drop_zero, List.drop_succ_cons, List.take_succ_cons, List.take_zero]
    simp only [kI 6 s.top h16, kU 6 s.low h17, kU 6 s.high h18]
    rfl
  rw [show (8 : Nat) = 7 + 1 from rfl, key_struct 7 28 (Try.prog.fieldsOf 28) _ (by kernel_rfl), if_pos ⟨by kernel_rfl, by kernel_rfl⟩]
  exact e

theorem wf30 (s : Ses) (h0 : (Lit.int .u64 s.id).wf = true) (h1 : (Lit.int .u64 s.nonce).wf = true) (h2 : s.peer.name.size ≤ maxLen) (h3 : (Lit.int .u64 s.peer.id).wf = true) (h4 : (Lit.int .i64 s.peer.frm).wf = true) (h5 : (Lit.int .i64 s.peer.til).wf = true) (h6 : (Lit.int .i64 s.peer.idx).wf = true) (h7 : s.peer.tag.size ≤ maxLen) (h8 : (Lit.int .i64 s.role).wf = true) (h9 : (Lit.int .i64 s.state).wf = true) (h10 : s.send.size ≤ maxLen) (h11 : s.hear.size ≤ maxLen) (h12 : (Lit.int .i64 s.epoch).wf = true) (h13 : (Lit.int .i64 s.count).wf = true) (h14 : (Lit.int .i64 s.since).wf = true) (h15 : (Lit.int .i64 s.seq).wf = true) (h16 : (Lit.int .i64 s.top).wf = true) (h17 : (Lit.int .u64 s.low).wf = true) (h18 : (Lit.int .u64 s.high).wf = true) (h19 : (Lit.int .i64 s.used).wf = true) : Try.prog.keyLits 9 30 [.int .u64 s.id, .int .u64 s.nonce, .string s.peer.name, .int .u64 s.peer.id, .int .i64 s.peer.frm, .int .i64 s.peer.til, .int .i64 s.peer.idx, .string s.peer.tag, .int .i64 s.role, .int .i64 s.state, .string s.send, .string s.hear, .int .i64 s.epoch, .int .i64 s.count, .int .i64 s.since, .int .i64 s.seq, .int .i64 s.top, .int .u64 s.low, .int .u64 s.high, .int .i64 s.used] = some [.int .u64 s.id, .int .u64 s.nonce, .string s.peer.name.data.toList, .int .u64 s.peer.id, .int .i64 s.peer.frm, .int .i64 s.peer.til, .int .i64 s.peer.idx, .string s.peer.tag.data.toList, .int .i64 s.role, .int .i64 s.state, .string s.send.data.toList, .string s.hear.data.toList, .int .i64 s.epoch, .int .i64 s.count, .int .i64 s.since, .int .i64 s.seq, .int .i64 s.top, .int .u64 s.low, .int .u64 s.high, .int .i64 s.used] := by
  have e : (((Try.prog.fieldsOf 30).toList.mapM fun f => Try.prog.keyLits 8 f.type (([.int .u64 s.id, .int .u64 s.nonce, .string s.peer.name, .int .u64 s.peer.id, .int .i64 s.peer.frm, .int .i64 s.peer.til, .int .i64 s.peer.idx, .string s.peer.tag, .int .i64 s.role, .int .i64 s.state, .string s.send, .string s.hear, .int .i64 s.epoch, .int .i64 s.count, .int .i64 s.since, .int .i64 s.seq, .int .i64 s.top, .int .u64 s.low, .int .u64 s.high, .int .i64 s.used].drop f.offset).take (Try.prog.cellsOf f.type))).map List.flatten) = some [.int .u64 s.id, .int .u64 s.nonce, .string s.peer.name.data.toList, .int .u64 s.peer.id, .int .i64 s.peer.frm, .int .i64 s.peer.til, .int .i64 s.peer.idx, .string s.peer.tag.data.toList, .int .i64 s.role, .int .i64 s.state, .string s.send.data.toList, .string s.hear.data.toList, .int .i64 s.epoch, .int .i64 s.count, .int .i64 s.since, .int .i64 s.seq, .int .i64 s.top, .int .u64 s.low, .int .u64 s.high, .int .i64 s.used] := by
    simp only [Program.fieldsOf, Try.underlying30, List.mapM_cons, List.mapM_nil]
    have c3 : Try.prog.cellsOf 3 = 1 := by kernel_rfl
    have c9 : Try.prog.cellsOf 9 = 1 := by kernel_rfl
    have c24 : Try.prog.cellsOf 24 = 1 := by kernel_rfl
    have c26 : Try.prog.cellsOf 26 = 6 := by kernel_rfl
    have c28 : Try.prog.cellsOf 28 = 3 := by kernel_rfl
    simp only [c3, c9, c24, c26, c28, List.drop_zero, List.drop_succ_cons, List.take_succ_cons, List.take_zero]
    simp only [kU 7 s.id h0, kU 7 s.nonce h1, k26 s h0 h1 h2 h3 h4 h5 h6 h7 h8 h9 h10 h11 h12 h13 h14 h15 h16 h17 h18 h19, kI 7 s.role h8, kI 7 s.state h9, kS 7 s.send h10, kS 7 s.hear h11, kI 7 s.epoch h12, kI 7 s.count h13, kI 7 s.since h14, kI 7 s.seq h15, k28 s h0 h1 h2 h3 h4 h5 h6 h7 h8 h9 h10 h11 h12 h13 h14 h15 h16 h17 h18 h19, kI 7 s.used h19]
    rfl
  rw [show (9 : Nat) = 8 + 1 from rfl, key_struct 8 30 (Try.prog.fieldsOf 30) _ (by kernel_rfl), if_pos ⟨by kernel_rfl, by kernel_rfl⟩]
  exact e
theorem wf_of (s : Ses) (h0 : (Lit.int .u64 s.id).wf = true) (h1 : (Lit.int .u64 s.nonce).wf = true) (h2 : s.peer.name.size ≤ maxLen) (h3 : (Lit.int .u64 s.peer.id).wf = true) (h4 : (Lit.int .i64 s.peer.frm).wf = true) (h5 : (Lit.int .i64 s.peer.til).wf = true) (h6 : (Lit.int .i64 s.peer.idx).wf = true) (h7 : s.peer.tag.size ≤ maxLen) (h8 : (Lit.int .i64 s.role).wf = true) (h9 : (Lit.int .i64 s.state).wf = true) (h10 : s.send.size ≤ maxLen) (h11 : s.hear.size ≤ maxLen) (h12 : (Lit.int .i64 s.epoch).wf = true) (h13 : (Lit.int .i64 s.count).wf = true) (h14 : (Lit.int .i64 s.since).wf = true) (h15 : (Lit.int .i64 s.seq).wf = true) (h16 : (Lit.int .i64 s.top).wf = true) (h17 : (Lit.int .u64 s.low).wf = true) (h18 : (Lit.int .u64 s.high).wf = true) (h19 : (Lit.int .i64 s.used).wf = true) : s.Wf := wf30 s h0 h1 h2 h3 h4 h5 h6 h7 h8 h9 h10 h11 h12 h13 h14 h15 h16 h17 h18 h19
theorem ses_formed (s : Ses) : (Value.agg s.cells.toArray).formed Try.prog 30 = true := rfl
theorem equalIn30 (s t : Ses) (hs : s.Wf) (ht : t.Wf) (w : World) : (Op.equalIn 10000 30 (.agg s.cells.toArray) (.agg t.cells.toArray)).run Try.prog w = .ok (decide (s = t)) w := by
  have hk : Try.prog.keyTypeAt 9 30 = true := by kernel_rfl
  obtain ⟨r, h1, h2⟩ := run_equalIn_deep (P := Try.prog) 9991 9 30 hk w 9 9 (.agg s.cells.toArray) (.agg t.cells.toArray) s.lits t.lits (ses_formed s) (ses_formed t) hs ht
  rw [show (10000 : Nat) = 9991 + 9 from rfl, h1]
  congr 1
  by_cases h : s = t
  · subst h; rw [decide_eq_true rfl]; exact h2.2 rfl
  · rw [decide_eq_false h]
    cases r with
    | false => rfl
    | true => exact absurd (lits_inj s t (h2.1 rfl)) h
theorem eql30 (s t : Ses) (hs : s.Wf) (ht : t.Wf) (w : World) : (binOp .eql 30 (.agg s.cells.toArray) (.agg t.cells.toArray)).run Try.prog w = .ok (.bool (decide (s = t))) w := by
  simp only [binOp]
  simp [Op.equal, Op.maxDepth, equalIn30 s t hs ht w]
theorem neq30 (s t : Ses) (hs : s.Wf) (ht : t.Wf) (w : World) : (binOp .neq 30 (.agg s.cells.toArray) (.agg t.cells.toArray)).run Try.prog w = .ok (.bool (!decide (s = t))) w := by
  simp only [binOp]
  simp [Op.equal, Op.maxDepth, equalIn30 s t hs ht w]
end Go.Proofs.Ytmfglppgpjplfaa
