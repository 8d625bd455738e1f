/-
  Requests and their messages: what they are in memory; great ones.
-/
import Derived.Test.YtmbakknpnilooaaBig
import Derived.Test.YtmbakknpnilooaaDel2
import Derived.Test.YtmbakknpnilooaaCopy
import Derived.Test.YtmbakknpnilooaaPlan
import Derived.Test.YtmbakknpnilooaaOpen
import Derived.KernelRfl
import Derived.Test.YtmbakknpnilooaaProg
import Derived.Walk
namespace Go.Proofs.Ytmbakknpnilooaa
open Go.RowKit
set_option maxHeartbeats 1000000
set_option maxRecDepth 20000
set_option linter.unusedVariables false
set_option linter.unusedSimpArgs false

structure En where
  name : ByteArray
  id : Nat
  frm : Int
  til : Int
  idx : Int
  tag : ByteArray
  deriving DecidableEq
def En.cells (e : En) : List Value := [.string e.name, .int .u64 e.id, .int .i64 e.frm, .int .i64 e.til, .int .i64 e.idx, .string e.tag]
structure It where
  key : ByteArray
  val : ByteArray
  ver : Int
  gone : Bool
  deriving DecidableEq
def It.cells (s : It) : List Value := [.string s.key, .string s.val, .int .i64 s.ver, .bool s.gone]
/-- what a message says -/
structure MC where
  kind : Int
  rid : Int
  ver : Int
  err : Int
  id : Nat
  has : Bool
  gone : Bool
  key : ByteArray
  val : ByteArray
  es : List En
  its : List It
  deriving DecidableEq
/-- a message, and where its lists lie -/
structure Mg where
  c : MC
  eo : Option Addr
  ec : Nat
  io : Option Addr
  ic : Nat
def Mg.cells (m : Mg) : List Value := [.int .i64 m.c.kind, .int .i64 m.c.rid, .int .i64 m.c.ver, .int .i64 m.c.err, .int .u64 m.c.id, .bool m.c.has, .bool m.c.gone, .string m.c.key, .string m.c.val,
  .slice m.eo m.c.es.length m.ec, .slice m.io m.c.its.length m.ic]
/-- what a request says -/
structure PC where
  rid : Int
  why : Int
  job : Int
  til : Int
  tries : Int
  sess : Nat
  to : En
  m : MC
  deriving DecidableEq
structure Pd where
  rid : Int
  why : Int
  job : Int
  til : Int
  tries : Int
  sess : Nat
  to : En
  m : Mg
def Pd.c (p : Pd) : PC := ⟨p.rid, p.why, p.job, p.til, p.tries, p.sess, p.to, p.m.c⟩
def Pd.cells (p : Pd) : List Value := [.int .i64 p.rid, .int .i64 p.why, .int .i64 p.job, .int .i64 p.til, .int .i64 p.tries, .int .u64 p.sess, .string p.to.name, .int .u64 p.to.id, .int .i64 p.to.frm, .int .i64 p.to.til, .int .i64 p.to.idx, .string p.to.tag,
  .int .i64 p.m.c.kind, .int .i64 p.m.c.rid, .int .i64 p.m.c.ver, .int .i64 p.m.c.err, .int .u64 p.m.c.id, .bool p.m.c.has, .bool p.m.c.gone, .string p.m.c.key, .string p.m.c.val,
  .slice p.m.eo p.m.c.es.length p.m.ec, .slice p.m.io p.m.c.its.length p.m.ic]
theorem row32 : RowTy Try.prog 32 23 := ⟨⟨_, rfl, rfl⟩, by kernel_rfl⟩
theorem row30 : RowTy Try.prog 30 11 := ⟨⟨_, rfl, rfl⟩, by kernel_rfl⟩
theorem row25 : RowTy Try.prog 25 6 := ⟨⟨_, rfl, rfl⟩, by kernel_rfl⟩
theorem row68 : RowTy Try.prog 68 4 := ⟨⟨_, rfl, rfl⟩, by kernel_rfl⟩
abbrev REn := Rws En.cells
abbrev RIt := Rws It.cells
structure Mg.Good (w : World) (m : Mg) : Prop where
  es : REn w m.eo m.c.es.length m.ec m.c.es
  its : RIt w m.io m.c.its.length m.ic m.c.its
theorem Mg.Good.below {w w' : World} {m : Mg} (h : m.Good w) (hb : Below w.heap.size w w') : m.Good w' := ⟨h.es.below hb, h.its.below hb⟩
structure RPd (w : World) (oa : Option Addr) (n c : Nat) (l : List Pd) : Prop where
  rows : Rws Pd.cells w oa n c l
  good : ∀ p ∈ l, p.m.Good w
theorem RPd.below {w w' : World} {oa : Option Addr} {n c : Nat} {l : List Pd} (h : RPd w oa n c l) (hb : Below w.heap.size w w') : RPd w' oa n c l := ⟨h.rows.below hb, fun p hp => (h.good p hp).below hb⟩
theorem cells_23 (p : Pd) : p.cells.length = 23 := rfl
theorem cells_11 (m : Mg) : m.cells.length = 11 := rfl
theorem pd_len (l : List Pd) : (l.flatMap Pd.cells).length = l.length * 23 := flat_length (k := 23) (fun _ => rfl) l
theorem en_len (l : List En) : (l.flatMap En.cells).length = l.length * 6 := flat_length (k := 6) (fun _ => rfl) l
theorem it_len (l : List It) : (l.flatMap It.cells).length = l.length * 4 := flat_length (k := 4) (fun _ => rfl) l
theorem pd_one (s : Pd) : ∀ v ∈ s.cells, v.oneCell' = true := by
  intro v hv
  simp [Pd.cells] at hv
  rcases hv with rfl | rfl | rfl | rfl | rfl | rfl | rfl | rfl | rfl | rfl | rfl | rfl | rfl | rfl | rfl | rfl | rfl | rfl | rfl | rfl | rfl | rfl | rfl <;> rfl
theorem mg_one (s : Mg) : ∀ v ∈ s.cells, v.oneCell' = true := by
  intro v hv
  simp [Mg.cells] at hv
  rcases hv with rfl | rfl | rfl | rfl | rfl | rfl | rfl | rfl | rfl | rfl | rfl <;> rfl
theorem en_one (s : En) : ∀ v ∈ s.cells, v.oneCell' = true := by
  intro v hv
  simp [En.cells] at hv
  rcases hv with rfl | rfl | rfl | rfl | rfl | rfl <;> rfl
theorem it_one (s : It) : ∀ v ∈ s.cells, v.oneCell' = true := by
  intro v hv
  simp [It.cells] at hv
  rcases hv with rfl | rfl | rfl | rfl <;> rfl
theorem flat_one {α : Type} {f : α → List Value} (hf : ∀ a, ∀ v ∈ f a, v.oneCell' = true) (l : List α) : ∀ u ∈ l.flatMap f, u.oneCell' = true := by
  intro u hu
  obtain ⟨p, -, hp⟩ := List.mem_flatMap.1 hu
  exact hf p u hp
theorem RowsOf.pd {w : World} {oa : Option Addr} {n : Nat} {l : List Pd} (h : RowsOf Pd.cells w oa n l) {i : Nat} (hi : i < l.length) : ∃ b o, oa = some ⟨b, o, none⟩ ∧ At w b (o + i * 23) l[i].cells :=
  h.at_ (k := 23) (fun _ => rfl) (by omega) hi
theorem RowsOf.en {w : World} {oa : Option Addr} {n : Nat} {l : List En} (h : RowsOf En.cells w oa n l) {i : Nat} (hi : i < l.length) : ∃ b o, oa = some ⟨b, o, none⟩ ∧ At w b (o + i * 6) l[i].cells :=
  h.at_ (k := 6) (fun _ => rfl) (by omega) hi
theorem RowsOf.it {w : World} {oa : Option Addr} {n : Nat} {l : List It} (h : RowsOf It.cells w oa n l) {i : Nat} (hi : i < l.length) : ∃ b o, oa = some ⟨b, o, none⟩ ∧ At w b (o + i * 4) l[i].cells :=
  h.at_ (k := 4) (fun _ => rfl) (by omega) hi
theorem pd_at {w : World} {b : Nat} {s : Pd} (h : Blk w b s.cells) (j : Nat) (hj : j < 23) : w.cell? ⟨b, j, none⟩ = some (s.cells[j]'hj) := h.at' j hj
theorem mg_at {w : World} {b : Nat} {s : Mg} (h : Blk w b s.cells) (j : Nat) (hj : j < 11) : w.cell? ⟨b, j, none⟩ = some (s.cells[j]'hj) := h.at' j hj
theorem en_at {w : World} {b : Nat} {s : En} (h : Blk w b s.cells) (j : Nat) (hj : j < 6) : w.cell? ⟨b, j, none⟩ = some (s.cells[j]'hj) := h.at' j hj
theorem At.sub {w : World} {b o k : Nat} {cs ds : List Value} (h : At w b o cs) (hd : ∀ j, j < ds.length → cs[k + j]? = ds[j]?) : At w b (o + k) ds := by
  refine ⟨h.lt, fun j v hj => ?_⟩
  have hj2 := (List.getElem?_eq_some_iff.1 hj).1
  rw [Nat.add_assoc]
  exact h.range (k + j) v (by rw [hd j hj2]; exact hj)
theorem At.to {w : World} {b o : Nat} {p : Pd} (h : At w b o p.cells) : At w b (o + 6) p.to.cells := h.sub fun j hj => by
  simp only [En.cells, List.length_cons, List.length_nil] at hj
  rcases (by omega : j = 0 ∨ j = 1 ∨ j = 2 ∨ j = 3 ∨ j = 4 ∨ j = 5) with rfl | rfl | rfl | rfl | rfl | rfl <;> rfl
theorem At.mg {w : World} {b o : Nat} {p : Pd} (h : At w b o p.cells) : At w b (o + 12) p.m.cells := h.sub fun j hj => by
  simp only [Mg.cells, List.length_cons, List.length_nil] at hj
  rcases (by omega : j = 0 ∨ j = 1 ∨ j = 2 ∨ j = 3 ∨ j = 4 ∨ j = 5 ∨ j = 6 ∨ j = 7 ∨ j = 8 ∨ j = 9 ∨ j = 10) with rfl | rfl | rfl | rfl | rfl | rfl | rfl | rfl | rfl | rfl | rfl <;> rfl

theorem wpList_load_at_w {P : Program} {w : World} {ops : Array Oper} {rest : List Oper} {op : Oper} {a : Act} {Q : Exit → Act → World → Prop} (hw : Region.wanted op (yielded ops a.tmps) = true) {ty : TypeId} {x : Operand} (ho : op.op = .load ty x) {b o : Nat} {cs : List Value} (hB : At w b o cs) (hx : a.eval x = .pointer (some ⟨b, o, none⟩)) (hT : RowTy P ty cs.length)
    (h : wpList P ops Q rest (a.put op.dst (.agg cs.toArray)) w) : wpList P ops Q (op :: rest) a w :=
  Go.BigFrame.wpList_want hw fun _ hK => wp_load_at ho hB hx hT (hK _ _ h)
theorem wpList_load_blk_w {P : Program} {w : World} {ops : Array Oper} {rest : List Oper} {op : Oper} {a : Act} {Q : Exit → Act → World → Prop} (hw : Region.wanted op (yielded ops a.tmps) = true) {ty : TypeId} {x : Operand} (ho : op.op = .load ty x) {b : Nat} {cs : List Value} (hB : Blk w b cs) (hx : a.eval x = .pointer (some ⟨b, 0, none⟩)) (hT : RowTy P ty cs.length)
    (h : wpList P ops Q rest (a.put op.dst (.agg cs.toArray)) w) : wpList P ops Q (op :: rest) a w :=
  Go.BigFrame.wpList_want hw fun _ hK => wp_load_blk ho hB hx hT (hK _ _ h)
def BoolOk (e : Ending) : Prop := ∃ b, e = .returned (.bool b)
theorem great17 (e : En) (w : World) : Calls Try.prog 17 #[.agg e.cells.toArray] w fun r w' => BoolOk r ∧ Below w.heap.size w w' := by
  obtain ⟨name, id, frm, til, idx, tag⟩ := e
  simp only [En.cells]
  by_cases h1 : (1000 : Int) < (name.size : Int)
  · go_enter Try.func17, Try.ntmps17
    go_wp2
    refine bodyPost_ret (v := .bool true) (by simp [results, Try.results17, go_sem]) rfl ⟨⟨true, rfl⟩, by (with_reducible try refine Lib.hid ?_); (repeat (with_reducible first | assumption | exact Below.refl _ _ | apply Below.drew | apply Below.drewN' | apply Below.setCell | apply Below.alloc)) <;> (try simp [length_fillTo, length_turnTo]) <;> (try omega)⟩
  · by_cases h2 : (1000 : Int) < (tag.size : Int)
    · go_enter Try.func17, Try.ntmps17
      go_wp2
      refine bodyPost_ret (v := .bool true) (by simp [results, Try.results17, go_sem]) rfl ⟨⟨true, rfl⟩, by (with_reducible try refine Lib.hid ?_); (repeat (with_reducible first | assumption | exact Below.refl _ _ | apply Below.drew | apply Below.drewN' | apply Below.setCell | apply Below.alloc)) <;> (try simp [length_fillTo, length_turnTo]) <;> (try omega)⟩
    · go_enter Try.func17, Try.ntmps17
      go_wp2
      refine bodyPost_ret (v := .bool false) (by simp [results, Try.results17, go_sem]) rfl ⟨⟨false, rfl⟩, by (with_reducible try refine Lib.hid ?_); (repeat (with_reducible first | assumption | exact Below.refl _ _ | apply Below.drew | apply Below.drewN' | apply Below.setCell | apply Below.alloc)) <;> (try simp [length_fillTo, length_turnTo]) <;> (try omega)⟩

/-- few entries, few items -/
def Mg.small (m : Mg) : Prop := m.c.es.length ≤ 30 ∧ m.c.its.length ≤ 30
def MsgOk (m : Mg) (e : Ending) : Prop := ∃ b, e = .returned (.bool b) ∧ (b = false → m.small)
theorem great29 (m : Mg) (w : World) (hg : m.Good w) : Calls Try.prog 29 #[.agg m.cells.toArray] w fun r w' => MsgOk m r ∧ Below w.heap.size w w' := by
  have hal : Below w.heap.size w (w.alloc (.cells m.cells.toArray 30)) := (Below.refl _ _).alloc (Nat.le_refl _) _
  have hX : Blk (w.alloc (.cells m.cells.toArray 30)) w.heap.size m.cells := Blk.new' rfl
  have HE := Lib.hid (hg.es.below hal); have HI := Lib.hid (hg.its.below hal)
  have HB := Lib.hid hal; have HX := Lib.hid hX
  have x7 : (w.alloc (.cells m.cells.toArray 30)).cell? ⟨w.heap.size, 7, none⟩ = some (.string m.c.key) := mg_at hX 7 (by omega)
  have x8 : (w.alloc (.cells m.cells.toArray 30)).cell? ⟨w.heap.size, 8, none⟩ = some (.string m.c.val) := mg_at hX 8 (by omega)
  have x9 : (w.alloc (.cells m.cells.toArray 30)).cell? ⟨w.heap.size, 9, none⟩ = some (.slice m.eo m.c.es.length m.ec) := mg_at hX 9 (by omega)
  have x10 : (w.alloc (.cells m.cells.toArray 30)).cell? ⟨w.heap.size, 10, none⟩ = some (.slice m.io m.c.its.length m.ic) := mg_at hX 10 (by omega)
  have hl2 := hX.lt
  obtain ⟨eo, he⟩ : ∃ q, m.eo = q := ⟨_, rfl⟩
  obtain ⟨io, hi⟩ : ∃ q, m.io = q := ⟨_, rfl⟩
  rw [he] at HE x9; rw [hi] at HI x10
  have HEO := Lib.hid he; have HIO := Lib.hid hi
  clear hal hX hg he hi
  by_cases h1 : (300 : Int) < (m.c.key.size : Int)
  · go_enter Try.func29, Try.ntmps29
    go_wp2
    refine bodyPost_ret (v := .bool true) (by simp [results, Try.results29, go_sem]) rfl ⟨⟨true, rfl, fun h => by simp at h⟩, HB.out⟩
  by_cases h2 : (300 : Int) < (m.c.val.size : Int)
  · go_enter Try.func29, Try.ntmps29
    go_wp2
    refine bodyPost_ret (v := .bool true) (by simp [results, Try.results29, go_sem]) rfl ⟨⟨true, rfl, fun h => by simp at h⟩, HB.out⟩
  by_cases h3 : (30 : Int) < (m.c.es.length : Int)
  · go_enter Try.func29, Try.ntmps29
    go_wp2
    refine bodyPost_ret (v := .bool true) (by simp [results, Try.results29, go_sem]) rfl ⟨⟨true, rfl, fun h => by simp at h⟩, HB.out⟩
  by_cases h4 : (30 : Int) < (m.c.its.length : Int)
  · go_enter Try.func29, Try.ntmps29
    go_wp2
    refine bodyPost_ret (v := .bool true) (by simp [results, Try.results29, go_sem]) rfl ⟨⟨true, rfl, fun h => by simp at h⟩, HB.out⟩
  have HS : Hid (m.small) := ⟨by omega, by omega⟩
  go_enter Try.func29, Try.ntmps29
  go_wp2
  clear h1 h2 h3 h4 x7 x8 x9 x10 hl2
  go_loopw [3] (fun i wr => ∃ (k : Nat), k ≤ m.c.es.length ∧ i = .int .i64 k ∧ Hid (Below (w.heap.size + 1) (w.alloc (.cells m.cells.toArray 30)) wr)) (fun i _ => m.c.es.length - (intOf i).toNat)
  case atStart => exact ⟨0, by omega, rfl, Lib.hid (Below.refl _ _)⟩
  case round =>
    obtain ⟨k, hk, rfl, hbel⟩ := hrel
    have hbl : Below (w.alloc (.cells m.cells.toArray 30)).heap.size (w.alloc (.cells m.cells.toArray 30)) wr := by simpa using hbel.out
    have hXr := HX.out.later hbl
    have x9 : wr.cell? ⟨w.heap.size, 9, none⟩ = some (.slice eo m.c.es.length m.ec) := by rw [← HEO.out]; exact mg_at hXr 9 (by omega)
    have hl2 := hXr.lt
    by_cases hlt : k < m.c.es.length
    · have hi1 : (k : Int) < (m.c.es.length : Int) := by omega
      have rk : IntKind.i64.wrap ((k : Int) + 1) = ((k + 1 : Nat) : Int) := by
        have h1 := HS.out.1
        rw [IntKind.wrap_i64]; omega
      obtain ⟨b1, p1, rfl, hA⟩ := (HE.out.rows.below hbl).en hlt
      obtain ⟨e, hs⟩ : ∃ e, m.c.es[k] = e := ⟨_, rfl⟩
      rw [hs] at hA
      have HBL := Lib.hid hbl
      have HA := Lib.hid hA
      clear hs hbl hXr hA
      go_wp2_with (refine stop_load (ty := 25) rfl ?_)
      refine ⟨wpList_load_at rfl rfl HA.out (by rfl) row25 ?_⟩
      go_wp2_with fail
      refine (great17 e wr).mono ?_
      rintro r w1 ⟨⟨b, rfl⟩, hb⟩
      have HB1 := Lib.hid (below_step HBL.out hb)
      clear hb hbel HBL x9 HA
      cases b
      · go_wp2
        go_roundw
        case measure => (simp [intOf]) <;> omega
        case rel => exact ⟨k + 1, by omega, rfl, Lib.hid (by simpa using HB1.out)⟩
      · go_wp2
        refine bodyPost_ret (v := .bool true) (by simp [results, Try.results29, go_sem]) rfl ⟨⟨true, rfl, fun h => by simp at h⟩, below_step HB.out (by simpa using HB1.out)⟩
    · obtain rfl : k = m.c.es.length := by omega
      have HB1 := Lib.hid (below_step HB.out hbl)
      have HX1 := Lib.hid hXr
      have HI1 := Lib.hid (HI.out.below hbl)
      clear hbel hbl hXr
      go_wp2
      clear x9 hl2
      obtain ⟨wA, rfl⟩ : ∃ x, x = wr := ⟨_, rfl⟩
      go_loopw [4] (fun i wq => ∃ (k : Nat), k ≤ m.c.its.length ∧ i = .int .i64 k ∧ Hid (Below wA.heap.size wA wq)) (fun i _ => m.c.its.length - (intOf i).toNat)
      case atStart => exact ⟨0, by omega, rfl, Lib.hid (Below.refl _ _)⟩
      case round =>
        obtain ⟨k, hk, rfl, hbel⟩ := hrel
        have hbl := hbel.out
        have hXr := HX1.out.later hbl
        have x10 : wr.cell? ⟨w.heap.size, 10, none⟩ = some (.slice io m.c.its.length m.ic) := by rw [← HIO.out]; exact mg_at hXr 10 (by omega)
        have hl2 := hXr.lt
        by_cases hlt : k < m.c.its.length
        · have hi1 : (k : Int) < (m.c.its.length : Int) := by omega
          have rk : IntKind.i64.wrap ((k : Int) + 1) = ((k + 1 : Nat) : Int) := by
            have h1 := HS.out.2
            rw [IntKind.wrap_i64]; omega
          obtain ⟨b1, p1, rfl, hA⟩ := (HI1.out.rows.below hbl).it hlt
          obtain ⟨e, hs⟩ : ∃ e, m.c.its[k] = e := ⟨_, rfl⟩
          rw [hs] at hA
          have y0 : wr.cell? ⟨b1, p1 + k * 4, none⟩ = some (.string e.key) := hA.get 0 (by simp [It.cells])
          have y1 : wr.cell? ⟨b1, p1 + k * 4 + 1, none⟩ = some (.string e.val) := hA.get 1 (by simp [It.cells])
          have hxl := hA.lt
          clear hs hbl hXr hA
          by_cases h5 : (300 : Int) < (e.key.size : Int)
          · go_wp2
            refine bodyPost_ret (v := .bool true) (by simp [results, Try.results29, go_sem]) rfl ⟨⟨true, rfl, fun h => by simp at h⟩, below_step HB1.out hbel.out⟩
          by_cases h6 : (300 : Int) < (e.val.size : Int)
          · go_wp2
            refine bodyPost_ret (v := .bool true) (by simp [results, Try.results29, go_sem]) rfl ⟨⟨true, rfl, fun h => by simp at h⟩, below_step HB1.out hbel.out⟩
          go_wp2
          go_roundw
          case measure => (simp [intOf]) <;> omega
          case rel => exact ⟨k + 1, by omega, rfl, hbel⟩
        · obtain rfl : k = m.c.its.length := by omega
          clear hbl hXr
          go_wp2
          refine bodyPost_ret (v := .bool false) (by simp [results, Try.results29, go_sem]) rfl ⟨⟨false, rfl, fun _ => HS.out⟩, below_step HB1.out hbel.out⟩

def ListOk (l : List Pd) (e : Ending) : Prop := ∃ b, e = .returned (.bool b) ∧ (b = false → l.length ≤ 50 ∧ ∀ p ∈ l, p.m.small)
theorem great6 (l : List Pd) (w : World) (oa : Option Addr) (n c : Nat) (h : RPd w oa n c l) :
    Calls Try.prog 6 #[.slice oa n c] w fun r w' => ListOk l r ∧ Below w.heap.size w w' := by
  obtain rfl : n = l.length := h.rows.rows.len
  have H := Lib.hid h; clear h
  by_cases hlen : 50 < l.length
  · have hlen' : (50 : Int) < (l.length : Int) := by omega
    clear hlen
    go_enter Try.func6, Try.ntmps6
    go_wp2
    refine bodyPost_ret (v := .bool true) (by simp [results, Try.results6, go_sem]) rfl ⟨⟨true, rfl, fun h => by simp at h⟩, Below.refl _ _⟩
  · have hlen' : ¬ (50 : Int) < (l.length : Int) := by omega
    have HLEN : Hid (l.length ≤ 50) := by show _ ≤ _; omega
    go_enter Try.func6, Try.ntmps6
    go_wp2
    clear hlen hlen'
    go_loopw [3] (fun i wr => ∃ (k : Nat), k ≤ l.length ∧ i = .int .i64 k ∧ Hid (∀ j (h : j < l.length), j < k → l[j].m.small) ∧ Hid (Below w.heap.size w wr)) (fun i _ => l.length - (intOf i).toNat)
    case atStart => exact ⟨0, by omega, rfl, Lib.hid (fun j _ h => by omega), by (with_reducible try refine Lib.hid ?_); (repeat (with_reducible first | assumption | exact Below.refl _ _ | apply Below.drew | apply Below.drewN' | apply Below.setCell | apply Below.alloc)) <;> (try simp [length_fillTo, length_turnTo]) <;> (try omega)⟩
    case round =>
      obtain ⟨k, hk, rfl, hS, hbel⟩ := hrel
      by_cases hlt : k < l.length
      · have hi1 : (k : Int) < (l.length : Int) := by omega
        have rk : IntKind.i64.wrap ((k : Int) + 1) = ((k + 1 : Nat) : Int) := by
          have h1 := HLEN.out
          rw [IntKind.wrap_i64]; omega
        have hR := H.out.below hbel.out
        have HG := Lib.hid (hR.good _ (List.getElem_mem hlt))
        obtain ⟨b1, p1, rfl, hA⟩ := hR.rows.rows.pd hlt
        have HN : Hid (l[k].m.small → ∀ j (h : j < l.length), j < k + 1 → l[j].m.small) := by
          intro ht j hj hjk
          by_cases e : j = k
          · subst e; exact ht
          · exact hS.out j hj (by omega)
        obtain ⟨s, hs⟩ : ∃ s, l[k] = s := ⟨_, rfl⟩
        rw [hs] at hA HG HN
        have HA := Lib.hid hA
        clear hs hR hA hS
        go_wp2_with (refine stop_load (ty := 25) rfl ?_)
        refine ⟨wpList_load_at rfl rfl HA.out.to (by rfl) row25 ?_⟩
        go_wp2_with fail
        refine (great17 s.to wr).mono ?_
        rintro r w1 ⟨⟨b, rfl⟩, hb⟩
        replace HA := Lib.hid (HA.out.later hb); replace HG := Lib.hid (HG.out.below hb)
        have HB := Lib.hid (below_step hbel.out hb); clear hb hbel
        cases b
        · go_wp2_with (refine stop_load (ty := 30) rfl ?_)
          refine ⟨wpList_load_at_w (by rfl) rfl HA.out.mg (by rfl) row30 ?_⟩
          go_wp2_with fail
          refine (great29 s.m w1 HG.out).mono ?_
          rintro r w2 ⟨⟨b, rfl, hsm⟩, hb⟩
          have HB2 := Lib.hid (below_step HB.out hb)
          have HSM := Lib.hid hsm
          clear hb HB hsm
          cases b
          · have HN2 := Lib.hid (HN.out (HSM.out rfl))
            clear HN HSM HA HG
            go_wp2
            go_roundw
            case measure => (simp [intOf]) <;> omega
            case rel => exact ⟨k + 1, by omega, rfl, HN2, HB2⟩
          · clear HN HSM HA HG
            go_wp2
            refine bodyPost_ret (v := .bool true) (by simp [results, Try.results6, go_sem]) rfl ⟨⟨true, rfl, fun h => by simp at h⟩, HB2.out⟩
        · go_wp2
          refine bodyPost_ret (v := .bool true) (by simp [results, Try.results6, go_sem]) rfl ⟨⟨true, rfl, fun h => by simp at h⟩, HB.out⟩
      · obtain rfl : k = l.length := by omega
        have HSA : Hid (∀ p ∈ l, p.m.small) := fun p hp => by
          obtain ⟨j, hj, rfl⟩ := List.getElem_of_mem hp
          exact hS.out j hj hj
        clear hS
        go_wp2
        refine bodyPost_ret (v := .bool false) (by simp [results, Try.results6, go_sem]) rfl ⟨⟨false, rfl, fun _ => ⟨HLEN.out, HSA.out⟩⟩, hbel.out⟩
end Go.Proofs.Ytmbakknpnilooaa
