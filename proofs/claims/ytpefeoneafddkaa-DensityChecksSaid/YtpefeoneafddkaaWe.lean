/-
  The walk of the law DensityChecks: it returns true and leaves what was there as it was.
-/
import Derived.Test.YtpefeoneafddkaaWd
namespace Go.Proofs.Ytpefeoneafddkaa
open Go.RowKit Go.Proofs.Ytpefeoneafddkaa.Eager
set_option maxHeartbeats 1000000
set_option linter.unusedVariables false
set_option linter.unusedSimpArgs false

theorem great24_is (b : Bool) (oa : Option Addr) (n c : Nat) (l : List Peer) (w : World) (h : RowsOf Peer.cells w oa n l) (hb : Hid (greatL l = b)) :
    Calls Try.prog 5 #[.slice oa n c] w fun r w' => r = .returned (.bool b) ∧ Below w.heap.size w w' := by
  have := great24 oa n c l w h
  rw [hb.out] at this
  exact this
theorem great11_is (b : Bool) (e : Ent) (w : World) (hb : Hid (greatE e = b)) : Calls Try.prog 6 #[.agg #[.string e.name, .int .u64 (e.id.toNat : Int), .int .i64 e.frm, .int .i64 e.til, .int .i64 e.idx, .string e.tag]] w fun r w' => r = .returned (.bool b) ∧ Below w.heap.size w w' := by
  have := great11 e w
  rw [hb.out] at this
  exact this

/-- an entry's six cells -/
structure EntAt (w : World) (b : Nat) (e : Ent) : Prop where
  c0 : w.cell? ⟨b, 0, none⟩ = some (.string e.name)
  c1 : w.cell? ⟨b, 1, none⟩ = some (.int .u64 (e.id.toNat : Int))
  c2 : w.cell? ⟨b, 2, none⟩ = some (.int .i64 e.frm)
  c3 : w.cell? ⟨b, 3, none⟩ = some (.int .i64 e.til)
  c4 : w.cell? ⟨b, 4, none⟩ = some (.int .i64 e.idx)
  c5 : w.cell? ⟨b, 5, none⟩ = some (.string e.tag)

theorem EntAt.below {w w' : World} {b : Nat} {e : Ent} (h : EntAt w b e) (hb : Below w.heap.size w w') : EntAt w' b e :=
  ⟨cell_later hb h.c0, cell_later hb h.c1, cell_later hb h.c2, cell_later hb h.c3, cell_later hb h.c4, cell_later hb h.c5⟩

/-- the world behind the two boxes -/
def boxed2 (w : World) (a b : Ent) : World := (w.alloc (.cells #[.string a.name, .int .u64 (a.id.toNat : Int), .int .i64 a.frm, .int .i64 a.til, .int .i64 a.idx, .string a.tag] 24)).alloc (.cells #[.string b.name, .int .u64 (b.id.toNat : Int), .int .i64 b.frm, .int .i64 b.til, .int .i64 b.idx, .string b.tag] 24)
theorem boxed2_below (w : World) (a b : Ent) : Below w.heap.size w (boxed2 w a b) := ((Below.refl _ _).alloc (Nat.le_refl _) _).alloc (by simp) _
theorem boxed2_fst (w : World) (a b : Ent) : EntAt (boxed2 w a b) w.heap.size a := by
  constructor <;> simp [boxed2, World.cell?_alloc_at, World.cell?_alloc_past]
theorem boxed2_snd (w : World) (a b : Ent) : EntAt (boxed2 w a b) (w.heap.size + 1) b := by
  constructor <;> simp [boxed2, World.cell?_alloc_at, World.cell?_alloc_past]

theorem checks_1 (me ow : Ent) (oa : Option Addr) (n c : Nat) (l : List Peer) (key : UInt64) (w : World) (h : RowsOf Peer.cells w oa n l) (g1 : Hid (greatL l = true)) :
    Calls Try.prog 3 #[.agg #[.string me.name, .int .u64 (me.id.toNat : Int), .int .i64 me.frm, .int .i64 me.til, .int .i64 me.idx, .string me.tag], .slice oa n c, .int .u64 (key.toNat : Int), .agg #[.string ow.name, .int .u64 (ow.id.toNat : Int), .int .i64 ow.frm, .int .i64 ow.til, .int .i64 ow.idx, .string ow.tag]] w fun r w' => r = .returned (.bool true) ∧ Below w.heap.size w w' := by
  have hb := boxed2_below w me ow
  have HB := Lib.hid hb; have HR := Lib.hid (h.below hb); clear h hb
  go_enter Try.func3, Try.ntmps3
  go_wp2_with fail
  refine (great24_is true _ _ _ l (boxed2 w me ow) HR.out g1).mono ?_
  rintro r w1 ⟨rfl, hb1⟩
  have h1 := Lib.hid (below_step HB.out hb1)
  clear hb1
  go_wp2_with fail
  refine (works7 _).mono ?_
  rintro r w2 ⟨rfl, hb2⟩
  have h2 := Lib.hid (below_step h1.out hb2)
  clear hb2
  go_wp2
  go_ret
  exact ⟨rfl, h2.out⟩

theorem checks_2 (me ow : Ent) (oa : Option Addr) (n c : Nat) (l : List Peer) (key : UInt64) (w : World) (h : RowsOf Peer.cells w oa n l) (g1 : Hid (greatL l = false)) (g2 : Hid (greatE me = true)) :
    Calls Try.prog 3 #[.agg #[.string me.name, .int .u64 (me.id.toNat : Int), .int .i64 me.frm, .int .i64 me.til, .int .i64 me.idx, .string me.tag], .slice oa n c, .int .u64 (key.toNat : Int), .agg #[.string ow.name, .int .u64 (ow.id.toNat : Int), .int .i64 ow.frm, .int .i64 ow.til, .int .i64 ow.idx, .string ow.tag]] w fun r w' => r = .returned (.bool true) ∧ Below w.heap.size w w' := by
  have hb := boxed2_below w me ow
  have HB := Lib.hid hb; have HR := Lib.hid (h.below hb); clear h hb
  go_enter Try.func3, Try.ntmps3
  go_wp2_with fail
  refine (great24_is false _ _ _ l (boxed2 w me ow) HR.out g1).mono ?_
  rintro r w1 ⟨rfl, hb1⟩
  have cme0 : ∀ W, Below (boxed2 w me ow).heap.size (boxed2 w me ow) W → W.cell? ⟨w.heap.size, 0, none⟩ = some (.string me.name) := fun W hW => ((boxed2_fst w me ow).below hW).c0
  have cme1 : ∀ W, Below (boxed2 w me ow).heap.size (boxed2 w me ow) W → W.cell? ⟨w.heap.size, 1, none⟩ = some (.int .u64 (me.id.toNat : Int)) := fun W hW => ((boxed2_fst w me ow).below hW).c1
  have cme2 : ∀ W, Below (boxed2 w me ow).heap.size (boxed2 w me ow) W → W.cell? ⟨w.heap.size, 2, none⟩ = some (.int .i64 me.frm) := fun W hW => ((boxed2_fst w me ow).below hW).c2
  have cme3 : ∀ W, Below (boxed2 w me ow).heap.size (boxed2 w me ow) W → W.cell? ⟨w.heap.size, 3, none⟩ = some (.int .i64 me.til) := fun W hW => ((boxed2_fst w me ow).below hW).c3
  have cme4 : ∀ W, Below (boxed2 w me ow).heap.size (boxed2 w me ow) W → W.cell? ⟨w.heap.size, 4, none⟩ = some (.int .i64 me.idx) := fun W hW => ((boxed2_fst w me ow).below hW).c4
  have cme5 : ∀ W, Below (boxed2 w me ow).heap.size (boxed2 w me ow) W → W.cell? ⟨w.heap.size, 5, none⟩ = some (.string me.tag) := fun W hW => ((boxed2_fst w me ow).below hW).c5
  have cow0 : ∀ W, Below (boxed2 w me ow).heap.size (boxed2 w me ow) W → W.cell? ⟨w.heap.size + 1, 0, none⟩ = some (.string ow.name) := fun W hW => ((boxed2_snd w me ow).below hW).c0
  have cow1 : ∀ W, Below (boxed2 w me ow).heap.size (boxed2 w me ow) W → W.cell? ⟨w.heap.size + 1, 1, none⟩ = some (.int .u64 (ow.id.toNat : Int)) := fun W hW => ((boxed2_snd w me ow).below hW).c1
  have cow2 : ∀ W, Below (boxed2 w me ow).heap.size (boxed2 w me ow) W → W.cell? ⟨w.heap.size + 1, 2, none⟩ = some (.int .i64 ow.frm) := fun W hW => ((boxed2_snd w me ow).below hW).c2
  have cow3 : ∀ W, Below (boxed2 w me ow).heap.size (boxed2 w me ow) W → W.cell? ⟨w.heap.size + 1, 3, none⟩ = some (.int .i64 ow.til) := fun W hW => ((boxed2_snd w me ow).below hW).c3
  have cow4 : ∀ W, Below (boxed2 w me ow).heap.size (boxed2 w me ow) W → W.cell? ⟨w.heap.size + 1, 4, none⟩ = some (.int .i64 ow.idx) := fun W hW => ((boxed2_snd w me ow).below hW).c4
  have cow5 : ∀ W, Below (boxed2 w me ow).heap.size (boxed2 w me ow) W → W.cell? ⟨w.heap.size + 1, 5, none⟩ = some (.string ow.tag) := fun W hW => ((boxed2_snd w me ow).below hW).c5
  go_wp2_with fail
  refine (great11_is true me _ g2).mono ?_
  rintro r w2 ⟨rfl, hb2⟩
  have h2 := below_step hb1 hb2
  clear hb2
  go_wp2_with fail
  refine (works7 _).mono ?_
  rintro r w3 ⟨rfl, hb3⟩
  have h3 := below_step h2 hb3
  clear hb3 cme0 cme1 cme2 cme3 cme4 cme5 cow0 cow1 cow2 cow3 cow4 cow5
  go_wp2
  go_ret
  exact ⟨rfl, below_step HB.out h3⟩

theorem checks_3 (me ow : Ent) (oa : Option Addr) (n c : Nat) (l : List Peer) (key : UInt64) (w : World) (h : RowsOf Peer.cells w oa n l) (g1 : Hid (greatL l = false)) (g2 : Hid (greatE me = false)) (g3 : Hid (greatE ow = true)) :
    Calls Try.prog 3 #[.agg #[.string me.name, .int .u64 (me.id.toNat : Int), .int .i64 me.frm, .int .i64 me.til, .int .i64 me.idx, .string me.tag], .slice oa n c, .int .u64 (key.toNat : Int), .agg #[.string ow.name, .int .u64 (ow.id.toNat : Int), .int .i64 ow.frm, .int .i64 ow.til, .int .i64 ow.idx, .string ow.tag]] w fun r w' => r = .returned (.bool true) ∧ Below w.heap.size w w' := by
  have hb := boxed2_below w me ow
  have HB := Lib.hid hb; have HR := Lib.hid (h.below hb); clear h hb
  go_enter Try.func3, Try.ntmps3
  go_wp2_with fail
  refine (great24_is false _ _ _ l (boxed2 w me ow) HR.out g1).mono ?_
  rintro r w1 ⟨rfl, hb1⟩
  have cme0 : ∀ W, Below (boxed2 w me ow).heap.size (boxed2 w me ow) W → W.cell? ⟨w.heap.size, 0, none⟩ = some (.string me.name) := fun W hW => ((boxed2_fst w me ow).below hW).c0
  have cme1 : ∀ W, Below (boxed2 w me ow).heap.size (boxed2 w me ow) W → W.cell? ⟨w.heap.size, 1, none⟩ = some (.int .u64 (me.id.toNat : Int)) := fun W hW => ((boxed2_fst w me ow).below hW).c1
  have cme2 : ∀ W, Below (boxed2 w me ow).heap.size (boxed2 w me ow) W → W.cell? ⟨w.heap.size, 2, none⟩ = some (.int .i64 me.frm) := fun W hW => ((boxed2_fst w me ow).below hW).c2
  have cme3 : ∀ W, Below (boxed2 w me ow).heap.size (boxed2 w me ow) W → W.cell? ⟨w.heap.size, 3, none⟩ = some (.int .i64 me.til) := fun W hW => ((boxed2_fst w me ow).below hW).c3
  have cme4 : ∀ W, Below (boxed2 w me ow).heap.size (boxed2 w me ow) W → W.cell? ⟨w.heap.size, 4, none⟩ = some (.int .i64 me.idx) := fun W hW => ((boxed2_fst w me ow).below hW).c4
  have cme5 : ∀ W, Below (boxed2 w me ow).heap.size (boxed2 w me ow) W → W.cell? ⟨w.heap.size, 5, none⟩ = some (.string me.tag) := fun W hW => ((boxed2_fst w me ow).below hW).c5
  have cow0 : ∀ W, Below (boxed2 w me ow).heap.size (boxed2 w me ow) W → W.cell? ⟨w.heap.size + 1, 0, none⟩ = some (.string ow.name) := fun W hW => ((boxed2_snd w me ow).below hW).c0
  have cow1 : ∀ W, Below (boxed2 w me ow).heap.size (boxed2 w me ow) W → W.cell? ⟨w.heap.size + 1, 1, none⟩ = some (.int .u64 (ow.id.toNat : Int)) := fun W hW => ((boxed2_snd w me ow).below hW).c1
  have cow2 : ∀ W, Below (boxed2 w me ow).heap.size (boxed2 w me ow) W → W.cell? ⟨w.heap.size + 1, 2, none⟩ = some (.int .i64 ow.frm) := fun W hW => ((boxed2_snd w me ow).below hW).c2
  have cow3 : ∀ W, Below (boxed2 w me ow).heap.size (boxed2 w me ow) W → W.cell? ⟨w.heap.size + 1, 3, none⟩ = some (.int .i64 ow.til) := fun W hW => ((boxed2_snd w me ow).below hW).c3
  have cow4 : ∀ W, Below (boxed2 w me ow).heap.size (boxed2 w me ow) W → W.cell? ⟨w.heap.size + 1, 4, none⟩ = some (.int .i64 ow.idx) := fun W hW => ((boxed2_snd w me ow).below hW).c4
  have cow5 : ∀ W, Below (boxed2 w me ow).heap.size (boxed2 w me ow) W → W.cell? ⟨w.heap.size + 1, 5, none⟩ = some (.string ow.tag) := fun W hW => ((boxed2_snd w me ow).below hW).c5
  go_wp2_with fail
  refine (great11_is false me _ g2).mono ?_
  rintro r w2 ⟨rfl, hb2⟩
  have h2 := below_step hb1 hb2
  clear hb2
  go_wp2_with fail
  refine (great11_is true ow _ g3).mono ?_
  rintro r w3 ⟨rfl, hb3⟩
  have h3 := below_step h2 hb3
  clear hb3
  go_wp2_with fail
  refine (works7 _).mono ?_
  rintro r w4 ⟨rfl, hb4⟩
  have h4 := below_step h3 hb4
  clear hb4 cme0 cme1 cme2 cme3 cme4 cme5 cow0 cow1 cow2 cow3 cow4 cow5
  go_wp2
  go_ret
  exact ⟨rfl, below_step HB.out h4⟩

theorem suspect_near (b : Bool) : (b == (suspect b == 0)) = true := by cases b <;> rfl

set_option maxRecDepth 100000 in
theorem checks_4 (me ow : Ent) (oa : Option Addr) (n c : Nat) (l : List Peer) (key : UInt64) (w : World) (h : RowsOf Peer.cells w oa n l) (hn : n ≤ 40) (g1 : Hid (greatL l = false)) (g2 : Hid (greatE me = false)) (g3 : Hid (greatE ow = false)) :
    Calls Try.prog 3 #[.agg #[.string me.name, .int .u64 (me.id.toNat : Int), .int .i64 me.frm, .int .i64 me.til, .int .i64 me.idx, .string me.tag], .slice oa n c, .int .u64 (key.toNat : Int), .agg #[.string ow.name, .int .u64 (ow.id.toNat : Int), .int .i64 ow.frm, .int .i64 ow.til, .int .i64 ow.idx, .string ow.tag]] w fun r w' => r = .returned (.bool true) ∧ Below w.heap.size w w' := by
  have hb := boxed2_below w me ow
  have HR : Hid (∀ W, Below (boxed2 w me ow).heap.size (boxed2 w me ow) W → RowsOf Peer.cells W oa n l) := fun W hW => (h.below hb).below hW
  have HB := Lib.hid hb; clear h hb
  have hnn : n ≤ 140737488351232 := by omega
  have hn64 : n ≤ 64 := by omega
  have HSN := Lib.hid (suspect_near (nearL me l key ow))
  go_enter Try.func3, Try.ntmps3
  go_wp2_with fail
  refine (great24_is false _ _ _ l (boxed2 w me ow) (HR.out _ (Below.refl _ _)) g1).mono ?_
  rintro r w1 ⟨rfl, hb1⟩
  have cme0 : ∀ W, Below (boxed2 w me ow).heap.size (boxed2 w me ow) W → W.cell? ⟨w.heap.size, 0, none⟩ = some (.string me.name) := fun W hW => ((boxed2_fst w me ow).below hW).c0
  have cme1 : ∀ W, Below (boxed2 w me ow).heap.size (boxed2 w me ow) W → W.cell? ⟨w.heap.size, 1, none⟩ = some (.int .u64 (me.id.toNat : Int)) := fun W hW => ((boxed2_fst w me ow).below hW).c1
  have cme2 : ∀ W, Below (boxed2 w me ow).heap.size (boxed2 w me ow) W → W.cell? ⟨w.heap.size, 2, none⟩ = some (.int .i64 me.frm) := fun W hW => ((boxed2_fst w me ow).below hW).c2
  have cme3 : ∀ W, Below (boxed2 w me ow).heap.size (boxed2 w me ow) W → W.cell? ⟨w.heap.size, 3, none⟩ = some (.int .i64 me.til) := fun W hW => ((boxed2_fst w me ow).below hW).c3
  have cme4 : ∀ W, Below (boxed2 w me ow).heap.size (boxed2 w me ow) W → W.cell? ⟨w.heap.size, 4, none⟩ = some (.int .i64 me.idx) := fun W hW => ((boxed2_fst w me ow).below hW).c4
  have cme5 : ∀ W, Below (boxed2 w me ow).heap.size (boxed2 w me ow) W → W.cell? ⟨w.heap.size, 5, none⟩ = some (.string me.tag) := fun W hW => ((boxed2_fst w me ow).below hW).c5
  have cow0 : ∀ W, Below (boxed2 w me ow).heap.size (boxed2 w me ow) W → W.cell? ⟨w.heap.size + 1, 0, none⟩ = some (.string ow.name) := fun W hW => ((boxed2_snd w me ow).below hW).c0
  have cow1 : ∀ W, Below (boxed2 w me ow).heap.size (boxed2 w me ow) W → W.cell? ⟨w.heap.size + 1, 1, none⟩ = some (.int .u64 (ow.id.toNat : Int)) := fun W hW => ((boxed2_snd w me ow).below hW).c1
  have cow2 : ∀ W, Below (boxed2 w me ow).heap.size (boxed2 w me ow) W → W.cell? ⟨w.heap.size + 1, 2, none⟩ = some (.int .i64 ow.frm) := fun W hW => ((boxed2_snd w me ow).below hW).c2
  have cow3 : ∀ W, Below (boxed2 w me ow).heap.size (boxed2 w me ow) W → W.cell? ⟨w.heap.size + 1, 3, none⟩ = some (.int .i64 ow.til) := fun W hW => ((boxed2_snd w me ow).below hW).c3
  have cow4 : ∀ W, Below (boxed2 w me ow).heap.size (boxed2 w me ow) W → W.cell? ⟨w.heap.size + 1, 4, none⟩ = some (.int .i64 ow.idx) := fun W hW => ((boxed2_snd w me ow).below hW).c4
  have cow5 : ∀ W, Below (boxed2 w me ow).heap.size (boxed2 w me ow) W → W.cell? ⟨w.heap.size + 1, 5, none⟩ = some (.string ow.tag) := fun W hW => ((boxed2_snd w me ow).below hW).c5
  go_wp2_with fail
  refine (great11_is false me _ g2).mono ?_
  rintro r w2 ⟨rfl, hb2⟩
  have h2 := below_step hb1 hb2
  clear hb2
  go_wp2_with fail
  refine (great11_is false ow _ g3).mono ?_
  rintro r w3 ⟨rfl, hb3⟩
  have h3 := below_step h2 hb3
  clear hb3
  go_wp2_with fail
  refine (check8 me ow _ _ _ l key _ (HR.out _ h3) hn64).mono ?_
  rintro r w4 ⟨rfl, hb4⟩
  have h4 := below_step h3 hb4
  clear hb4 h2 hb1
  go_wp2_with fail
  refine wp_region_seq [(0, true), (1, true), (3, true), (4, true), (2, false), (5, false), (6, true), (7, true), (8, true), (9, true), (10, true), (11, true), (13, true), (12, false), (14, true), (15, true), (16, true), (17, true), (18, true), (19, true), (20, true), (22, true), (23, true), (21, false), (24, true), (25, true), (26, true), (27, false), (28, true), (29, true)] (by kernel_rfl) (by kernel_rfl) (fun _ _ dd _ _ h => by cases dd <;> exact h) ?_
  intro W0 hW0
  have h40 : Below (boxed2 w me ow).heap.size (boxed2 w me ow) W0 := hW0 ▸ h4.drew
  clear hW0
  replace cme0 := fun W (hW : Below W0.heap.size W0 W) => cme0 W (below_step h40 hW)
  replace cme1 := fun W (hW : Below W0.heap.size W0 W) => cme1 W (below_step h40 hW)
  replace cme2 := fun W (hW : Below W0.heap.size W0 W) => cme2 W (below_step h40 hW)
  replace cme3 := fun W (hW : Below W0.heap.size W0 W) => cme3 W (below_step h40 hW)
  replace cme4 := fun W (hW : Below W0.heap.size W0 W) => cme4 W (below_step h40 hW)
  replace cme5 := fun W (hW : Below W0.heap.size W0 W) => cme5 W (below_step h40 hW)
  replace cow0 := fun W (hW : Below W0.heap.size W0 W) => cow0 W (below_step h40 hW)
  replace cow1 := fun W (hW : Below W0.heap.size W0 W) => cow1 W (below_step h40 hW)
  replace cow2 := fun W (hW : Below W0.heap.size W0 W) => cow2 W (below_step h40 hW)
  replace cow3 := fun W (hW : Below W0.heap.size W0 W) => cow3 W (below_step h40 hW)
  replace cow4 := fun W (hW : Below W0.heap.size W0 W) => cow4 W (below_step h40 hW)
  replace cow5 := fun W (hW : Below W0.heap.size W0 W) => cow5 W (below_step h40 hW)
  (refine seq_take (d := 26) (v := ?_) rfl rfl rfl ?_ ?_; rotate_left; (focus ((intro w' hb0 hw'; go_simp) <;> with_reducible rfl)); simp only [Act.put, List.setIfInBounds_toArray, List.set_cons_zero, List.set_cons_succ])
  (refine seq_take (d := 27) (v := ?_) rfl rfl rfl ?_ ?_; rotate_left; (focus ((intro w' hb0 hw'; go_simp) <;> with_reducible rfl)); simp only [Act.put, List.setIfInBounds_toArray, List.set_cons_zero, List.set_cons_succ])
  (refine seq_take (d := 29) (v := ?_) rfl rfl rfl ?_ ?_; rotate_left; (focus ((intro w' hb0 hw'; go_simp) <;> with_reducible rfl)); simp only [Act.put, List.setIfInBounds_toArray, List.set_cons_zero, List.set_cons_succ])
  (refine seq_take (d := 30) (v := ?_) rfl rfl rfl ?_ ?_; rotate_left; (focus ((intro w' hb0 hw'; go_simp) <;> with_reducible rfl)); simp only [Act.put, List.setIfInBounds_toArray, List.set_cons_zero, List.set_cons_succ])
  refine seq_do rfl rfl (fun K hK => ?_)
  go_simp
  refine (span9 me _ _ _ l _ (HR.out _ (by assumption)) hnn).mono ?_
  rintro r w5 ⟨rfl, hb5⟩
  have h5 := below_step (W := boxed2 w me ow) (by assumption) hb5
  refine hK _ _ hb5 ?_
  clear hb5 hK K
  refine seq_do rfl rfl (fun K hK => ?_)
  go_simp
  refine (span10 me _ _ _ l _ (HR.out _ (by assumption)) hnn).mono ?_
  rintro r w6 ⟨rfl, hb6⟩
  have h6 := below_step (W := boxed2 w me ow) (by assumption) hb6
  refine hK _ _ hb6 ?_
  clear hb6 hK K
  (refine seq_take (d := 32) (v := ?_) rfl rfl rfl ?_ ?_; rotate_left; (focus ((intro w' hb0 hw'; go_simp) <;> with_reducible rfl)); simp only [Act.put, List.setIfInBounds_toArray, List.set_cons_zero, List.set_cons_succ])
  (refine seq_take (d := 33) (v := ?_) rfl rfl rfl ?_ ?_; rotate_left; (focus ((intro w' hb0 hw'; go_simp) <;> with_reducible rfl)); simp only [Act.put, List.setIfInBounds_toArray, List.set_cons_zero, List.set_cons_succ])
  (refine seq_take (d := 34) (v := ?_) rfl rfl rfl ?_ ?_; rotate_left; (focus ((intro w' hb0 hw'; go_simp) <;> with_reducible rfl)); simp only [Act.put, List.setIfInBounds_toArray, List.set_cons_zero, List.set_cons_succ])
  (refine seq_take (d := 35) (v := ?_) rfl rfl rfl ?_ ?_; rotate_left; (focus ((intro w' hb0 hw'; go_simp) <;> with_reducible rfl)); simp only [Act.put, List.setIfInBounds_toArray, List.set_cons_zero, List.set_cons_succ])
  (refine seq_take (d := 36) (v := ?_) rfl rfl rfl ?_ ?_; rotate_left; (focus ((intro w' hb0 hw'; go_simp) <;> with_reducible rfl)); simp only [Act.put, List.setIfInBounds_toArray, List.set_cons_zero, List.set_cons_succ])
  (refine seq_take (d := 37) (v := ?_) rfl rfl rfl ?_ ?_; rotate_left; (focus ((intro w' hb0 hw'; go_simp) <;> with_reducible rfl)); simp only [Act.put, List.setIfInBounds_toArray, List.set_cons_zero, List.set_cons_succ])
  (refine seq_take (d := 39) (v := ?_) rfl rfl rfl ?_ ?_; rotate_left; (focus ((intro w' hb0 hw'; go_simp) <;> with_reducible rfl)); simp only [Act.put, List.setIfInBounds_toArray, List.set_cons_zero, List.set_cons_succ])
  refine seq_do rfl rfl (fun K hK => ?_)
  go_simp
  refine (check11 me ow _ _ _ l key _ (HR.out _ (by assumption)) hnn).mono ?_
  rintro r w7 ⟨rfl, hb7⟩
  have h7 := below_step (W := boxed2 w me ow) (by assumption) hb7
  refine hK _ _ hb7 ?_
  clear hb7 hK K
  (refine seq_take (d := 40) (v := ?_) rfl rfl rfl ?_ ?_; rotate_left; (focus ((intro w' hb0 hw'; go_simp) <;> with_reducible rfl)); simp only [Act.put, List.setIfInBounds_toArray, List.set_cons_zero, List.set_cons_succ])
  (refine seq_take (d := 41) (v := ?_) rfl rfl rfl ?_ ?_; rotate_left; (focus ((intro w' hb0 hw'; go_simp) <;> with_reducible rfl)); simp only [Act.put, List.setIfInBounds_toArray, List.set_cons_zero, List.set_cons_succ])
  (refine seq_take (d := 42) (v := ?_) rfl rfl rfl ?_ ?_; rotate_left; (focus ((intro w' hb0 hw'; go_simp) <;> with_reducible rfl)); simp only [Act.put, List.setIfInBounds_toArray, List.set_cons_zero, List.set_cons_succ])
  (refine seq_take (d := 43) (v := ?_) rfl rfl rfl ?_ ?_; rotate_left; (focus ((intro w' hb0 hw'; go_simp) <;> with_reducible rfl)); simp only [Act.put, List.setIfInBounds_toArray, List.set_cons_zero, List.set_cons_succ])
  (refine seq_take (d := 44) (v := ?_) rfl rfl rfl ?_ ?_; rotate_left; (focus ((intro w' hb0 hw'; go_simp) <;> with_reducible rfl)); simp only [Act.put, List.setIfInBounds_toArray, List.set_cons_zero, List.set_cons_succ])
  (refine seq_take (d := 45) (v := ?_) rfl rfl rfl ?_ ?_; rotate_left; (focus ((intro w' hb0 hw'; go_simp) <;> with_reducible rfl)); simp only [Act.put, List.setIfInBounds_toArray, List.set_cons_zero, List.set_cons_succ])
  (refine seq_take (d := 46) (v := ?_) rfl rfl rfl ?_ ?_; rotate_left; (focus ((intro w' hb0 hw'; go_simp) <;> with_reducible rfl)); simp only [Act.put, List.setIfInBounds_toArray, List.set_cons_zero, List.set_cons_succ])
  (refine seq_take (d := 48) (v := ?_) rfl rfl rfl ?_ ?_; rotate_left; (focus ((intro w' hb0 hw'; go_simp) <;> with_reducible rfl)); simp only [Act.put, List.setIfInBounds_toArray, List.set_cons_zero, List.set_cons_succ])
  (refine seq_take (d := 49) (v := ?_) rfl rfl rfl ?_ ?_; rotate_left; (focus ((intro w' hb0 hw'; go_simp) <;> with_reducible rfl)); simp only [Act.put, List.setIfInBounds_toArray, List.set_cons_zero, List.set_cons_succ])
  refine seq_do rfl rfl (fun K hK => ?_)
  go_simp
  refine (near12 me ow _ _ _ l key _ (HR.out _ (by assumption)) hnn).mono ?_
  rintro r w8 ⟨rfl, hb8⟩
  have h8 := below_step (W := boxed2 w me ow) (by assumption) hb8
  refine hK _ _ hb8 ?_
  clear hb8 hK K
  have hsn := HSN.out
  (refine seq_take (d := 50) (v := ?_) rfl rfl rfl ?_ ?_; rotate_left; (focus ((intro w' hb0 hw'; go_simp) <;> with_reducible rfl)); simp only [Act.put, List.setIfInBounds_toArray, List.set_cons_zero, List.set_cons_succ])
  (refine seq_take (d := 51) (v := ?_) rfl rfl rfl ?_ ?_; rotate_left; (focus ((intro w' hb0 hw'; go_simp) <;> with_reducible rfl)); simp only [Act.put, List.setIfInBounds_toArray, List.set_cons_zero, List.set_cons_succ])
  (refine seq_take (d := 52) (v := ?_) rfl rfl rfl ?_ ?_; rotate_left; (focus ((intro w' hb0 hw'; go_simp) <;> with_reducible rfl)); simp only [Act.put, List.setIfInBounds_toArray, List.set_cons_zero, List.set_cons_succ])
  refine seq_do rfl rfl (fun K hK => ?_)
  go_simp
  clear hsn
  refine (works7 _).mono ?_
  rintro r w9 ⟨rfl, hb9⟩
  have h9 := below_step (W := boxed2 w me ow) (by assumption) hb9
  refine hK _ _ hb9 ?_
  clear hb9 hK K
  (refine seq_take (d := 54) (v := ?_) rfl rfl rfl ?_ ?_; rotate_left; (focus ((intro w' hb0 hw'; go_simp) <;> with_reducible rfl)); simp only [Act.put, List.setIfInBounds_toArray, List.set_cons_zero, List.set_cons_succ])
  (refine seq_take (d := 8) (v := ?_) rfl rfl rfl ?_ ?_; rotate_left; (focus ((intro w' hb0 hw'; go_simp) <;> with_reducible rfl)); simp only [Act.put, List.setIfInBounds_toArray, List.set_cons_zero, List.set_cons_succ])
  refine seq_end ?_
  go_wp2
  go_ret
  exact ⟨rfl, below_step HB.out h9⟩

theorem checks_any (me ow : Ent) (oa : Option Addr) (n c : Nat) (l : List Peer) (key : UInt64) (w : World) (h : RowsOf Peer.cells w oa n l) :
    Calls Try.prog 3 #[.agg #[.string me.name, .int .u64 (me.id.toNat : Int), .int .i64 me.frm, .int .i64 me.til, .int .i64 me.idx, .string me.tag], .slice oa n c, .int .u64 (key.toNat : Int), .agg #[.string ow.name, .int .u64 (ow.id.toNat : Int), .int .i64 ow.frm, .int .i64 ow.til, .int .i64 ow.idx, .string ow.tag]] w fun r w' => r = .returned (.bool true) ∧ Below w.heap.size w w' := by
  cases g1 : greatL l with
  | true => exact checks_1 me ow oa n c l key w h g1
  | false =>
    have hn : n ≤ 40 := by
      have hl := h.len
      simp only [greatL, Bool.or_eq_false_iff, decide_eq_false_iff_not] at g1
      omega
    cases g2 : greatE me with
    | true => exact checks_2 me ow oa n c l key w h g1 g2
    | false =>
      cases g3 : greatE ow with
      | true => exact checks_3 me ow oa n c l key w h g1 g2 g3
      | false => exact checks_4 me ow oa n c l key w h hn g1 g2 g3

end Go.Proofs.Ytpefeoneafddkaa
