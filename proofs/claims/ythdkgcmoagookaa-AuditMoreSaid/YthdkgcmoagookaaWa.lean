/-
  Nodes and what they hold: what they are in memory.
-/
import Derived.Test.YthdkgcmoagookaaBig
import Derived.Test.YthdkgcmoagookaaDel2
import Derived.Test.YthdkgcmoagookaaCopy
import Derived.Test.YthdkgcmoagookaaPlan
import Derived.Test.YthdkgcmoagookaaOpen
import Derived.KernelRfl
import Derived.Test.YthdkgcmoagookaaProg
import Derived.Walk
namespace Go.Proofs.Ythdkgcmoagookaa
open Go.RowKit
set_option maxHeartbeats 1000000
set_option maxRecDepth 20000
set_option linter.unusedVariables false
set_option linter.unusedSimpArgs false

structure En where
  name : ByteArray
  id : Nat
  frm : Int
  til : Int
  idx : Int
  tag : ByteArray
  deriving DecidableEq
def En.cells (e : En) : List Value := [.string e.name, .int .u64 e.id, .int .i64 e.frm, .int .i64 e.til, .int .i64 e.idx, .string e.tag]
structure It where
  key : ByteArray
  val : ByteArray
  ver : Int
  gone : Bool
  deriving DecidableEq
def It.cells (s : It) : List Value := [.string s.key, .string s.val, .int .i64 s.ver, .bool s.gone]
/-- what a message says -/
structure MC where
  kind : Int
  rid : Int
  ver : Int
  err : Int
  id : Nat
  has : Bool
  gone : Bool
  key : ByteArray
  val : ByteArray
  es : List En
  its : List It
  deriving DecidableEq
/-- a message, and where its lists lie -/
structure Mg where
  c : MC
  eo : Option Addr
  ec : Nat
  io : Option Addr
  ic : Nat
def Mg.cells (m : Mg) : List Value := [.int .i64 m.c.kind, .int .i64 m.c.rid, .int .i64 m.c.ver, .int .i64 m.c.err, .int .u64 m.c.id, .bool m.c.has, .bool m.c.gone, .string m.c.key, .string m.c.val,
  .slice m.eo m.c.es.length m.ec, .slice m.io m.c.its.length m.ic]
/-- what a request says -/
structure PC where
  rid : Int
  why : Int
  job : Int
  til : Int
  tries : Int
  sess : Nat
  to : En
  m : MC
  deriving DecidableEq
structure Pd where
  rid : Int
  why : Int
  job : Int
  til : Int
  tries : Int
  sess : Nat
  to : En
  m : Mg
def Pd.c (p : Pd) : PC := ⟨p.rid, p.why, p.job, p.til, p.tries, p.sess, p.to, p.m.c⟩
def Pd.cells (p : Pd) : List Value := [.int .i64 p.rid, .int .i64 p.why, .int .i64 p.job, .int .i64 p.til, .int .i64 p.tries, .int .u64 p.sess, .string p.to.name, .int .u64 p.to.id, .int .i64 p.to.frm, .int .i64 p.to.til, .int .i64 p.to.idx, .string p.to.tag,
  .int .i64 p.m.c.kind, .int .i64 p.m.c.rid, .int .i64 p.m.c.ver, .int .i64 p.m.c.err, .int .u64 p.m.c.id, .bool p.m.c.has, .bool p.m.c.gone, .string p.m.c.key, .string p.m.c.val,
  .slice p.m.eo p.m.c.es.length p.m.ec, .slice p.m.io p.m.c.its.length p.m.ic]
theorem row83 : RowTy Try.prog 83 23 := ⟨⟨_, rfl, rfl⟩, by kernel_rfl⟩
theorem row81 : RowTy Try.prog 81 11 := ⟨⟨_, rfl, rfl⟩, by kernel_rfl⟩
theorem row29 : RowTy Try.prog 29 6 := ⟨⟨_, rfl, rfl⟩, by kernel_rfl⟩
theorem row65 : RowTy Try.prog 65 4 := ⟨⟨_, rfl, rfl⟩, by kernel_rfl⟩
abbrev REn := Rws En.cells
abbrev RIt := Rws It.cells
structure Mg.Good (w : World) (m : Mg) : Prop where
  es : REn w m.eo m.c.es.length m.ec m.c.es
  its : RIt w m.io m.c.its.length m.ic m.c.its
theorem Mg.Good.below {w w' : World} {m : Mg} (h : m.Good w) (hb : Below w.heap.size w w') : m.Good w' := ⟨h.es.below hb, h.its.below hb⟩
structure RPd (w : World) (oa : Option Addr) (n c : Nat) (l : List Pd) : Prop where
  rows : Rws Pd.cells w oa n c l
  good : ∀ p ∈ l, p.m.Good w
theorem RPd.below {w w' : World} {oa : Option Addr} {n c : Nat} {l : List Pd} (h : RPd w oa n c l) (hb : Below w.heap.size w w') : RPd w' oa n c l := ⟨h.rows.below hb, fun p hp => (h.good p hp).below hb⟩
structure Ses where
  id : Nat
  nonce : Nat
  peer : En
  role : Int
  state : Int
  send : ByteArray
  hear : ByteArray
  epoch : Int
  count : Int
  since : Int
  seq : Int
  top : Int
  low : Nat
  high : Nat
  used : Int
  deriving DecidableEq
def Ses.cells (s : Ses) : List Value := [.int .u64 s.id, .int .u64 s.nonce, .string s.peer.name, .int .u64 s.peer.id, .int .i64 s.peer.frm, .int .i64 s.peer.til, .int .i64 s.peer.idx, .string s.peer.tag,
  .int .i64 s.role, .int .i64 s.state, .string s.send, .string s.hear, .int .i64 s.epoch, .int .i64 s.count, .int .i64 s.since, .int .i64 s.seq, .int .i64 s.top, .int .u64 s.low, .int .u64 s.high, .int .i64 s.used]
theorem row77 : RowTy Try.prog 77 20 := ⟨⟨_, rfl, rfl⟩, by kernel_rfl⟩

/-- a peer -/
structure Pe where
  ent : En
  since : Int
  under : Int
  deriving DecidableEq
def Pe.cells (p : Pe) : List Value := [.string p.ent.name, .int .u64 p.ent.id, .int .i64 p.ent.frm, .int .i64 p.ent.til, .int .i64 p.ent.idx, .string p.ent.tag, .int .i64 p.since, .int .i64 p.under]
/-- a finger -/
structure Fi where
  bit : Int
  peer : Pe
  deriving DecidableEq
def Fi.cells (f : Fi) : List Value := [.int .i64 f.bit, .string f.peer.ent.name, .int .u64 f.peer.ent.id, .int .i64 f.peer.ent.frm, .int .i64 f.peer.ent.til, .int .i64 f.peer.ent.idx, .string f.peer.ent.tag, .int .i64 f.peer.since, .int .i64 f.peer.under]
/-- a list, and where it lies -/
structure Sl (α : Type) where
  l : List α
  o : Option Addr
  c : Nat
def Sl.val {α : Type} (s : Sl α) : Value := .slice s.o s.l.length s.c
structure Sl.In {α : Type} (f : α → List Value) (w : World) (s : Sl α) : Prop where
  rows : Rws f w s.o s.l.length s.c s.l
theorem Sl.In.below {α : Type} {f : α → List Value} {w w' : World} {s : Sl α} (h : s.In f w) (hb : Below w.heap.size w w') : s.In f w' := ⟨h.rows.below hb⟩
def strC (s : ByteArray) : List Value := [.string s]
/-- a job -/
structure Jb where
  id : Int
  kind : Int
  phase : Int
  hops : Int
  tries : Int
  til : Int
  key : ByteArray
  val : ByteArray
  owner : En
  item : It
  acks : Int
  waits : Int
  asked : Sl ByteArray
  back : En
  backRid : Int
  backJob : Int
def Jb.cells (j : Jb) : List Value := [.int .i64 j.id, .int .i64 j.kind, .int .i64 j.phase, .int .i64 j.hops, .int .i64 j.tries, .int .i64 j.til, .string j.key, .string j.val,
  .string j.owner.name, .int .u64 j.owner.id, .int .i64 j.owner.frm, .int .i64 j.owner.til, .int .i64 j.owner.idx, .string j.owner.tag,
  .string j.item.key, .string j.item.val, .int .i64 j.item.ver, .bool j.item.gone, .int .i64 j.acks, .int .i64 j.waits, j.asked.val,
  .string j.back.name, .int .u64 j.back.id, .int .i64 j.back.frm, .int .i64 j.back.til, .int .i64 j.back.idx, .string j.back.tag, .int .i64 j.backRid, .int .i64 j.backJob]
/-- a result -/
structure Rs where
  job : Int
  kind : Int
  ver : Int
  key : ByteArray
  val : ByteArray
  has : Bool
  gone : Bool
  err : Int
def Rs.cells (r : Rs) : List Value := [.int .i64 r.job, .int .i64 r.kind, .int .i64 r.ver, .string r.key, .string r.val, .bool r.has, .bool r.gone, .int .i64 r.err]
/-- a node -/
structure Nd where
  me : En
  clock : Int
  psk : ByteArray
  gidx : Int
  gkey : ByteArray
  ready : Bool
  pred : Sl Pe
  list : Sl Pe
  fings : Sl Fi
  sess : Sl Ses
  pends : Sl Pd
  items : Sl It
  jobs : Sl Jb
  rid : Int
  jobId : Int
  drO : Option Addr
  drN : Nat
  drC : Nat
  ress : Sl Rs
def Nd.cells (n : Nd) : List Value := [.string n.me.name, .int .u64 n.me.id, .int .i64 n.me.frm, .int .i64 n.me.til, .int .i64 n.me.idx, .string n.me.tag,
  .int .i64 n.clock, .string n.psk, .int .i64 n.gidx, .string n.gkey, .bool n.ready, n.pred.val, n.list.val, n.fings.val, n.sess.val, n.pends.val, n.items.val, n.jobs.val,
  .int .i64 n.rid, .int .i64 n.jobId, .slice n.drO n.drN n.drC, n.ress.val]
theorem row50 : RowTy Try.prog 50 8 := ⟨⟨_, rfl, rfl⟩, by kernel_rfl⟩
theorem row63 : RowTy Try.prog 63 9 := ⟨⟨_, rfl, rfl⟩, by kernel_rfl⟩
theorem row67 : RowTy Try.prog 67 29 := ⟨⟨_, rfl, rfl⟩, by kernel_rfl⟩
theorem row70 : RowTy Try.prog 70 8 := ⟨⟨_, rfl, rfl⟩, by kernel_rfl⟩
theorem row41 : RowTy Try.prog 41 22 := ⟨⟨_, rfl, rfl⟩, by kernel_rfl⟩
def zE : Value := .agg #[.string ⟨#[]⟩, .int .u64 0, .int .i64 0, .int .i64 0, .int .i64 0, .string ⟨#[]⟩]
theorem el32 : Elem Try.prog 32 50 8 80 := Elem.of (.agg #[.string ⟨#[]⟩, .int .u64 0, .int .i64 0, .int .i64 0, .int .i64 0, .string ⟨#[]⟩, .int .i64 0, .int .i64 0]) rfl (by kernel_rfl) rfl (by omega)
theorem el23 : Elem Try.prog 23 29 6 64 := Elem.of zE rfl (by kernel_rfl) rfl (by omega)
theorem el52 : Elem Try.prog 52 9 1 16 := Elem.of (.string ⟨#[]⟩) rfl (by kernel_rfl) rfl (by omega)
abbrev RPe := Rws Pe.cells
structure SPd (w : World) (s : Sl Pd) : Prop where
  rows : s.In Pd.cells w
  good : ∀ p ∈ s.l, p.m.Good w
structure SJb (w : World) (s : Sl Jb) : Prop where
  rows : s.In Jb.cells w
  good : ∀ p ∈ s.l, p.asked.In strC w
theorem SPd.below {w w' : World} {s : Sl Pd} (h : SPd w s) (hb : Below w.heap.size w w') : SPd w' s := ⟨h.rows.below hb, fun p hp => (h.good p hp).below hb⟩
theorem SJb.below {w w' : World} {s : Sl Jb} (h : SJb w s) (hb : Below w.heap.size w w') : SJb w' s := ⟨h.rows.below hb, fun p hp => (h.good p hp).below hb⟩
/-- its lists lie where it says -/
structure Nd.Good (w : World) (n : Nd) : Prop where
  pred : n.pred.In Pe.cells w
  list : n.list.In Pe.cells w
  fings : n.fings.In Fi.cells w
  sess : n.sess.In Ses.cells w
  pends : SPd w n.pends
  items : n.items.In It.cells w
  jobs : SJb w n.jobs
  ress : n.ress.In Rs.cells w
theorem Nd.Good.below {w w' : World} {n : Nd} (h : n.Good w) (hb : Below w.heap.size w w') : n.Good w' :=
  ⟨h.pred.below hb, h.list.below hb, h.fings.below hb, h.sess.below hb, h.pends.below hb, h.items.below hb, h.jobs.below hb, h.ress.below hb⟩
structure RNd (w : World) (oa : Option Addr) (n c : Nat) (l : List Nd) : Prop where
  rows : Rws Nd.cells w oa n c l
  good : ∀ p ∈ l, p.Good w
theorem RNd.below {w w' : World} {oa : Option Addr} {n c : Nat} {l : List Nd} (h : RNd w oa n c l) (hb : Below w.heap.size w w') : RNd w' oa n c l := ⟨h.rows.below hb, fun p hp => (h.good p hp).below hb⟩
theorem cells_23 (p : Pd) : p.cells.length = 23 := rfl
theorem cells_11 (m : Mg) : m.cells.length = 11 := rfl
theorem pd_len (l : List Pd) : (l.flatMap Pd.cells).length = l.length * 23 := flat_length (k := 23) (fun _ => rfl) l
theorem en_len (l : List En) : (l.flatMap En.cells).length = l.length * 6 := flat_length (k := 6) (fun _ => rfl) l
theorem it_len (l : List It) : (l.flatMap It.cells).length = l.length * 4 := flat_length (k := 4) (fun _ => rfl) l
theorem pd_one (s : Pd) : ∀ v ∈ s.cells, v.oneCell' = true := by
  intro v hv
  simp [Pd.cells] at hv
  rcases hv with rfl | rfl | rfl | rfl | rfl | rfl | rfl | rfl | rfl | rfl | rfl | rfl | rfl | rfl | rfl | rfl | rfl | rfl | rfl | rfl | rfl | rfl | rfl <;> rfl
theorem mg_one (s : Mg) : ∀ v ∈ s.cells, v.oneCell' = true := by
  intro v hv
  simp [Mg.cells] at hv
  rcases hv with rfl | rfl | rfl | rfl | rfl | rfl | rfl | rfl | rfl | rfl | rfl <;> rfl
theorem en_one (s : En) : ∀ v ∈ s.cells, v.oneCell' = true := by
  intro v hv
  simp [En.cells] at hv
  rcases hv with rfl | rfl | rfl | rfl | rfl | rfl <;> rfl
theorem it_one (s : It) : ∀ v ∈ s.cells, v.oneCell' = true := by
  intro v hv
  simp [It.cells] at hv
  rcases hv with rfl | rfl | rfl | rfl <;> rfl
theorem flat_one {α : Type} {f : α → List Value} (hf : ∀ a, ∀ v ∈ f a, v.oneCell' = true) (l : List α) : ∀ u ∈ l.flatMap f, u.oneCell' = true := by
  intro u hu
  obtain ⟨p, -, hp⟩ := List.mem_flatMap.1 hu
  exact hf p u hp
theorem RowsOf.pd {w : World} {oa : Option Addr} {n : Nat} {l : List Pd} (h : RowsOf Pd.cells w oa n l) {i : Nat} (hi : i < l.length) : ∃ b o, oa = some ⟨b, o, none⟩ ∧ At w b (o + i * 23) l[i].cells :=
  h.at_ (k := 23) (fun _ => rfl) (by omega) hi
theorem RowsOf.en {w : World} {oa : Option Addr} {n : Nat} {l : List En} (h : RowsOf En.cells w oa n l) {i : Nat} (hi : i < l.length) : ∃ b o, oa = some ⟨b, o, none⟩ ∧ At w b (o + i * 6) l[i].cells :=
  h.at_ (k := 6) (fun _ => rfl) (by omega) hi
theorem RowsOf.it {w : World} {oa : Option Addr} {n : Nat} {l : List It} (h : RowsOf It.cells w oa n l) {i : Nat} (hi : i < l.length) : ∃ b o, oa = some ⟨b, o, none⟩ ∧ At w b (o + i * 4) l[i].cells :=
  h.at_ (k := 4) (fun _ => rfl) (by omega) hi
theorem pd_at {w : World} {b : Nat} {s : Pd} (h : Blk w b s.cells) (j : Nat) (hj : j < 23) : w.cell? ⟨b, j, none⟩ = some (s.cells[j]'hj) := h.at' j hj
theorem mg_at {w : World} {b : Nat} {s : Mg} (h : Blk w b s.cells) (j : Nat) (hj : j < 11) : w.cell? ⟨b, j, none⟩ = some (s.cells[j]'hj) := h.at' j hj
theorem en_at {w : World} {b : Nat} {s : En} (h : Blk w b s.cells) (j : Nat) (hj : j < 6) : w.cell? ⟨b, j, none⟩ = some (s.cells[j]'hj) := h.at' j hj
theorem At.sub {w : World} {b o k : Nat} {cs ds : List Value} (h : At w b o cs) (hd : ∀ j, j < ds.length → cs[k + j]? = ds[j]?) : At w b (o + k) ds := by
  refine ⟨h.lt, fun j v hj => ?_⟩
  have hj2 := (List.getElem?_eq_some_iff.1 hj).1
  rw [Nat.add_assoc]
  exact h.range (k + j) v (by rw [hd j hj2]; exact hj)
theorem At.to {w : World} {b o : Nat} {p : Pd} (h : At w b o p.cells) : At w b (o + 6) p.to.cells := h.sub fun j hj => by
  simp only [En.cells, List.length_cons, List.length_nil] at hj
  rcases (by omega : j = 0 ∨ j = 1 ∨ j = 2 ∨ j = 3 ∨ j = 4 ∨ j = 5) with rfl | rfl | rfl | rfl | rfl | rfl <;> rfl
theorem At.mg {w : World} {b o : Nat} {p : Pd} (h : At w b o p.cells) : At w b (o + 12) p.m.cells := h.sub fun j hj => by
  simp only [Mg.cells, List.length_cons, List.length_nil] at hj
  rcases (by omega : j = 0 ∨ j = 1 ∨ j = 2 ∨ j = 3 ∨ j = 4 ∨ j = 5 ∨ j = 6 ∨ j = 7 ∨ j = 8 ∨ j = 9 ∨ j = 10) with rfl | rfl | rfl | rfl | rfl | rfl | rfl | rfl | rfl | rfl | rfl <;> rfl

abbrev RSes := Rws Ses.cells
theorem ses_len (l : List Ses) : (l.flatMap Ses.cells).length = l.length * 20 := flat_length (k := 20) (fun _ => rfl) l
theorem ses_one (s : Ses) : ∀ v ∈ s.cells, v.oneCell' = true := by
  intro v hv
  simp [Ses.cells] at hv
  rcases hv with rfl | rfl | rfl | rfl | rfl | rfl | rfl | rfl | rfl | rfl | rfl | rfl | rfl | rfl | rfl | rfl | rfl | rfl | rfl | rfl <;> rfl
theorem ses_oneCells (l : List Ses) : ∀ u ∈ l.flatMap Ses.cells, u.oneCell' = true := by
  intro u hu
  obtain ⟨p, -, hp⟩ := List.mem_flatMap.1 hu
  exact ses_one p u hp
theorem RowsOf.ses {w : World} {oa : Option Addr} {n : Nat} {l : List Ses} (h : RowsOf Ses.cells w oa n l) {i : Nat} (hi : i < l.length) : ∃ b o, oa = some ⟨b, o, none⟩ ∧ At w b (o + i * 20) l[i].cells :=
  h.at_ (k := 20) (fun _ => rfl) (by omega) hi

theorem pe_len (l : List Pe) : (l.flatMap Pe.cells).length = l.length * 8 := flat_length (k := 8) (fun _ => rfl) l
theorem pe_one (s : Pe) : ∀ v ∈ s.cells, v.oneCell' = true := by
  intro v hv
  simp [Pe.cells] at hv
  rcases hv with rfl | rfl | rfl | rfl | rfl | rfl | rfl | rfl <;> rfl
theorem fi_one (s : Fi) : ∀ v ∈ s.cells, v.oneCell' = true := by
  intro v hv
  simp [Fi.cells] at hv
  rcases hv with rfl | rfl | rfl | rfl | rfl | rfl | rfl | rfl | rfl <;> rfl
theorem nd_one (s : Nd) : ∀ v ∈ s.cells, v.oneCell' = true := by
  intro v hv
  simp [Nd.cells] at hv
  rcases hv with rfl | rfl | rfl | rfl | rfl | rfl | rfl | rfl | rfl | rfl | rfl | rfl | rfl | rfl | rfl | rfl | rfl | rfl | rfl | rfl | rfl | rfl <;> rfl
theorem jb_one (s : Jb) : ∀ v ∈ s.cells, v.oneCell' = true := by
  intro v hv
  simp [Jb.cells] at hv
  rcases hv with rfl | rfl | rfl | rfl | rfl | rfl | rfl | rfl | rfl | rfl | rfl | rfl | rfl | rfl | rfl | rfl | rfl | rfl | rfl | rfl | rfl | rfl | rfl | rfl | rfl | rfl | rfl | rfl | rfl <;> rfl
theorem RowsOf.pe {w : World} {oa : Option Addr} {n : Nat} {l : List Pe} (h : RowsOf Pe.cells w oa n l) {i : Nat} (hi : i < l.length) : ∃ b o, oa = some ⟨b, o, none⟩ ∧ At w b (o + i * 8) l[i].cells :=
  h.at_ (k := 8) (fun _ => rfl) (by omega) hi
theorem RowsOf.fi {w : World} {oa : Option Addr} {n : Nat} {l : List Fi} (h : RowsOf Fi.cells w oa n l) {i : Nat} (hi : i < l.length) : ∃ b o, oa = some ⟨b, o, none⟩ ∧ At w b (o + i * 9) l[i].cells :=
  h.at_ (k := 9) (fun _ => rfl) (by omega) hi
theorem RowsOf.jb {w : World} {oa : Option Addr} {n : Nat} {l : List Jb} (h : RowsOf Jb.cells w oa n l) {i : Nat} (hi : i < l.length) : ∃ b o, oa = some ⟨b, o, none⟩ ∧ At w b (o + i * 29) l[i].cells :=
  h.at_ (k := 29) (fun _ => rfl) (by omega) hi
theorem RowsOf.rs {w : World} {oa : Option Addr} {n : Nat} {l : List Rs} (h : RowsOf Rs.cells w oa n l) {i : Nat} (hi : i < l.length) : ∃ b o, oa = some ⟨b, o, none⟩ ∧ At w b (o + i * 8) l[i].cells :=
  h.at_ (k := 8) (fun _ => rfl) (by omega) hi
theorem RowsOf.nd {w : World} {oa : Option Addr} {n : Nat} {l : List Nd} (h : RowsOf Nd.cells w oa n l) {i : Nat} (hi : i < l.length) : ∃ b o, oa = some ⟨b, o, none⟩ ∧ At w b (o + i * 22) l[i].cells :=
  h.at_ (k := 22) (fun _ => rfl) (by omega) hi
theorem RowsOf.str {w : World} {oa : Option Addr} {n : Nat} {l : List ByteArray} (h : RowsOf strC w oa n l) {i : Nat} (hi : i < l.length) : ∃ b o, oa = some ⟨b, o, none⟩ ∧ At w b (o + i * 1) (strC l[i]) :=
  h.at_ (k := 1) (fun _ => rfl) (by omega) hi
theorem pe_at {w : World} {b : Nat} {s : Pe} (h : Blk w b s.cells) (j : Nat) (hj : j < 8) : w.cell? ⟨b, j, none⟩ = some (s.cells[j]'hj) := h.at' j hj
theorem nd_at {w : World} {b : Nat} {s : Nd} (h : Blk w b s.cells) (j : Nat) (hj : j < 22) : w.cell? ⟨b, j, none⟩ = some (s.cells[j]'hj) := h.at' j hj
theorem ses_at {w : World} {b : Nat} {s : Ses} (h : Blk w b s.cells) (j : Nat) (hj : j < 20) : w.cell? ⟨b, j, none⟩ = some (s.cells[j]'hj) := h.at' j hj
theorem jb_at {w : World} {b : Nat} {s : Jb} (h : Blk w b s.cells) (j : Nat) (hj : j < 29) : w.cell? ⟨b, j, none⟩ = some (s.cells[j]'hj) := h.at' j hj
end Go.Proofs.Ythdkgcmoagookaa
