/-
  The walk of the law DensityNearer: it returns true and leaves what was there as it was.
-/
import Derived.Test.YtpefeoneafddkaaWe
namespace Go.Proofs.Ytpefeoneafddkaa
open Go.RowKit Go.Proofs.Ytpefeoneafddkaa.Eager
set_option maxHeartbeats 1000000
set_option linter.unusedVariables false
set_option linter.unusedSimpArgs false

theorem near_self (me ow : Ent) (l : List Peer) : nearL me l ow.id ow = true := by
  simp [nearL, dist]

theorem near_between (me ow : Ent) (l : List Peer) (key by_ : UInt64) (h : nearL me l key ow = true) (hb : by_.toNat ≤ (dist key ow.id).toNat) : nearL me l (key + by_) ow = true := by
  unfold nearL at *
  rw [Bool.or_eq_true] at *
  rcases h with h | h
  · exact Or.inl h
  · refine Or.inr ?_
    rw [decide_eq_true_iff] at *
    have e : (dist (key + by_) ow.id).toNat ≤ (dist key ow.id).toNat := by
      unfold dist at *
      have h1 := ow.id.toNat_lt; have h2 := key.toNat_lt; have h3 := by_.toNat_lt
      simp only [UInt64.toNat_sub, UInt64.toNat_add] at hb ⊢
      omega
    exact Nat.le_trans (Nat.mul_le_mul_right _ e) h

theorem wrap_add_u64 (a b : UInt64) : IntKind.u64.wrap ((a.toNat : Int) + (b.toNat : Int)) = ((a + b).toNat : Int) := by
  rw [IntKind.wrap_u64, UInt64.toNat_add]
  omega

theorem nearer_0 (me ow : Ent) (oa : Option Addr) (n c : Nat) (l : List Peer) (key by_ : UInt64) (w : World) (h : RowsOf Peer.cells w oa n l) (g : Hid (greatL l = true)) :
    Calls Try.prog 4 #[.agg #[.string me.name, .int .u64 (me.id.toNat : Int), .int .i64 me.frm, .int .i64 me.til, .int .i64 me.idx, .string me.tag], .slice oa n c, .int .u64 (key.toNat : Int), .int .u64 (by_.toNat : Int), .agg #[.string ow.name, .int .u64 (ow.id.toNat : Int), .int .i64 ow.frm, .int .i64 ow.til, .int .i64 ow.idx, .string ow.tag]] w fun r w' => r = .returned (.bool true) ∧ Below w.heap.size w w' := by
  have hb := boxed2_below w me ow
  have HR : Hid (∀ W, Below (boxed2 w me ow).heap.size (boxed2 w me ow) W → RowsOf Peer.cells W oa n l) := fun W hW => (h.below hb).below hW
  have HB := Lib.hid hb; clear h hb
  go_enter Try.func4, Try.ntmps4
  go_wp2_with fail
  refine (works7 (boxed2 w me ow)).mono ?_
  rintro r w0 ⟨rfl, hb0⟩
  go_wp2_with fail
  refine (great24_is true _ _ _ l _ (HR.out _ hb0) g).mono ?_
  rintro r w1 ⟨rfl, hb1⟩
  have h1 := below_step hb0 hb1
  clear hb1
  go_wp2
  go_ret
  exact ⟨rfl, below_step HB.out h1⟩

theorem nearer_1 (me ow : Ent) (oa : Option Addr) (n c : Nat) (l : List Peer) (key by_ : UInt64) (w : World) (h : RowsOf Peer.cells w oa n l) (g : Hid (greatL l = false)) (g2 : Hid (greatE me = true)) :
    Calls Try.prog 4 #[.agg #[.string me.name, .int .u64 (me.id.toNat : Int), .int .i64 me.frm, .int .i64 me.til, .int .i64 me.idx, .string me.tag], .slice oa n c, .int .u64 (key.toNat : Int), .int .u64 (by_.toNat : Int), .agg #[.string ow.name, .int .u64 (ow.id.toNat : Int), .int .i64 ow.frm, .int .i64 ow.til, .int .i64 ow.idx, .string ow.tag]] w fun r w' => r = .returned (.bool true) ∧ Below w.heap.size w w' := by
  have hb := boxed2_below w me ow
  have HR : Hid (∀ W, Below (boxed2 w me ow).heap.size (boxed2 w me ow) W → RowsOf Peer.cells W oa n l) := fun W hW => (h.below hb).below hW
  have HB := Lib.hid hb; clear h hb
  go_enter Try.func4, Try.ntmps4
  go_wp2_with fail
  refine (works7 (boxed2 w me ow)).mono ?_
  rintro r w0 ⟨rfl, hb0⟩
  have cme0 : ∀ W, Below (boxed2 w me ow).heap.size (boxed2 w me ow) W → W.cell? ⟨w.heap.size, 0, none⟩ = some (.string me.name) := fun W hW => ((boxed2_fst w me ow).below hW).c0
  have cme1 : ∀ W, Below (boxed2 w me ow).heap.size (boxed2 w me ow) W → W.cell? ⟨w.heap.size, 1, none⟩ = some (.int .u64 (me.id.toNat : Int)) := fun W hW => ((boxed2_fst w me ow).below hW).c1
  have cme2 : ∀ W, Below (boxed2 w me ow).heap.size (boxed2 w me ow) W → W.cell? ⟨w.heap.size, 2, none⟩ = some (.int .i64 me.frm) := fun W hW => ((boxed2_fst w me ow).below hW).c2
  have cme3 : ∀ W, Below (boxed2 w me ow).heap.size (boxed2 w me ow) W → W.cell? ⟨w.heap.size, 3, none⟩ = some (.int .i64 me.til) := fun W hW => ((boxed2_fst w me ow).below hW).c3
  have cme4 : ∀ W, Below (boxed2 w me ow).heap.size (boxed2 w me ow) W → W.cell? ⟨w.heap.size, 4, none⟩ = some (.int .i64 me.idx) := fun W hW => ((boxed2_fst w me ow).below hW).c4
  have cme5 : ∀ W, Below (boxed2 w me ow).heap.size (boxed2 w me ow) W → W.cell? ⟨w.heap.size, 5, none⟩ = some (.string me.tag) := fun W hW => ((boxed2_fst w me ow).below hW).c5
  have cow0 : ∀ W, Below (boxed2 w me ow).heap.size (boxed2 w me ow) W → W.cell? ⟨w.heap.size + 1, 0, none⟩ = some (.string ow.name) := fun W hW => ((boxed2_snd w me ow).below hW).c0
  have cow1 : ∀ W, Below (boxed2 w me ow).heap.size (boxed2 w me ow) W → W.cell? ⟨w.heap.size + 1, 1, none⟩ = some (.int .u64 (ow.id.toNat : Int)) := fun W hW => ((boxed2_snd w me ow).below hW).c1
  have cow2 : ∀ W, Below (boxed2 w me ow).heap.size (boxed2 w me ow) W → W.cell? ⟨w.heap.size + 1, 2, none⟩ = some (.int .i64 ow.frm) := fun W hW => ((boxed2_snd w me ow).below hW).c2
  have cow3 : ∀ W, Below (boxed2 w me ow).heap.size (boxed2 w me ow) W → W.cell? ⟨w.heap.size + 1, 3, none⟩ = some (.int .i64 ow.til) := fun W hW => ((boxed2_snd w me ow).below hW).c3
  have cow4 : ∀ W, Below (boxed2 w me ow).heap.size (boxed2 w me ow) W → W.cell? ⟨w.heap.size + 1, 4, none⟩ = some (.int .i64 ow.idx) := fun W hW => ((boxed2_snd w me ow).below hW).c4
  have cow5 : ∀ W, Below (boxed2 w me ow).heap.size (boxed2 w me ow) W → W.cell? ⟨w.heap.size + 1, 5, none⟩ = some (.string ow.tag) := fun W hW => ((boxed2_snd w me ow).below hW).c5
  go_wp2_with fail
  refine (great24_is false _ _ _ l _ (HR.out _ hb0) g).mono ?_
  rintro r w1 ⟨rfl, hb1⟩
  have h1 := below_step hb0 hb1
  clear hb1
  go_wp2_with fail
  refine (great11_is true me _ g2).mono ?_
  rintro r w2 ⟨rfl, hb2⟩
  have h2 := below_step h1 hb2
  clear hb2 cme0 cme1 cme2 cme3 cme4 cme5 cow0 cow1 cow2 cow3 cow4 cow5
  go_wp2
  go_ret
  exact ⟨rfl, below_step HB.out h2⟩

theorem nearer_2 (me ow : Ent) (oa : Option Addr) (n c : Nat) (l : List Peer) (key by_ : UInt64) (w : World) (h : RowsOf Peer.cells w oa n l) (g : Hid (greatL l = false)) (g2 : Hid (greatE me = false)) (g3 : Hid (greatE ow = true)) :
    Calls Try.prog 4 #[.agg #[.string me.name, .int .u64 (me.id.toNat : Int), .int .i64 me.frm, .int .i64 me.til, .int .i64 me.idx, .string me.tag], .slice oa n c, .int .u64 (key.toNat : Int), .int .u64 (by_.toNat : Int), .agg #[.string ow.name, .int .u64 (ow.id.toNat : Int), .int .i64 ow.frm, .int .i64 ow.til, .int .i64 ow.idx, .string ow.tag]] w fun r w' => r = .returned (.bool true) ∧ Below w.heap.size w w' := by
  have hb := boxed2_below w me ow
  have HR : Hid (∀ W, Below (boxed2 w me ow).heap.size (boxed2 w me ow) W → RowsOf Peer.cells W oa n l) := fun W hW => (h.below hb).below hW
  have HB := Lib.hid hb; clear h hb
  go_enter Try.func4, Try.ntmps4
  go_wp2_with fail
  refine (works7 (boxed2 w me ow)).mono ?_
  rintro r w0 ⟨rfl, hb0⟩
  have cme0 : ∀ W, Below (boxed2 w me ow).heap.size (boxed2 w me ow) W → W.cell? ⟨w.heap.size, 0, none⟩ = some (.string me.name) := fun W hW => ((boxed2_fst w me ow).below hW).c0
  have cme1 : ∀ W, Below (boxed2 w me ow).heap.size (boxed2 w me ow) W → W.cell? ⟨w.heap.size, 1, none⟩ = some (.int .u64 (me.id.toNat : Int)) := fun W hW => ((boxed2_fst w me ow).below hW).c1
  have cme2 : ∀ W, Below (boxed2 w me ow).heap.size (boxed2 w me ow) W → W.cell? ⟨w.heap.size, 2, none⟩ = some (.int .i64 me.frm) := fun W hW => ((boxed2_fst w me ow).below hW).c2
  have cme3 : ∀ W, Below (boxed2 w me ow).heap.size (boxed2 w me ow) W → W.cell? ⟨w.heap.size, 3, none⟩ = some (.int .i64 me.til) := fun W hW => ((boxed2_fst w me ow).below hW).c3
  have cme4 : ∀ W, Below (boxed2 w me ow).heap.size (boxed2 w me ow) W → W.cell? ⟨w.heap.size, 4, none⟩ = some (.int .i64 me.idx) := fun W hW => ((boxed2_fst w me ow).below hW).c4
  have cme5 : ∀ W, Below (boxed2 w me ow).heap.size (boxed2 w me ow) W → W.cell? ⟨w.heap.size, 5, none⟩ = some (.string me.tag) := fun W hW => ((boxed2_fst w me ow).below hW).c5
  have cow0 : ∀ W, Below (boxed2 w me ow).heap.size (boxed2 w me ow) W → W.cell? ⟨w.heap.size + 1, 0, none⟩ = some (.string ow.name) := fun W hW => ((boxed2_snd w me ow).below hW).c0
  have cow1 : ∀ W, Below (boxed2 w me ow).heap.size (boxed2 w me ow) W → W.cell? ⟨w.heap.size + 1, 1, none⟩ = some (.int .u64 (ow.id.toNat : Int)) := fun W hW => ((boxed2_snd w me ow).below hW).c1
  have cow2 : ∀ W, Below (boxed2 w me ow).heap.size (boxed2 w me ow) W → W.cell? ⟨w.heap.size + 1, 2, none⟩ = some (.int .i64 ow.frm) := fun W hW => ((boxed2_snd w me ow).below hW).c2
  have cow3 : ∀ W, Below (boxed2 w me ow).heap.size (boxed2 w me ow) W → W.cell? ⟨w.heap.size + 1, 3, none⟩ = some (.int .i64 ow.til) := fun W hW => ((boxed2_snd w me ow).below hW).c3
  have cow4 : ∀ W, Below (boxed2 w me ow).heap.size (boxed2 w me ow) W → W.cell? ⟨w.heap.size + 1, 4, none⟩ = some (.int .i64 ow.idx) := fun W hW => ((boxed2_snd w me ow).below hW).c4
  have cow5 : ∀ W, Below (boxed2 w me ow).heap.size (boxed2 w me ow) W → W.cell? ⟨w.heap.size + 1, 5, none⟩ = some (.string ow.tag) := fun W hW => ((boxed2_snd w me ow).below hW).c5
  go_wp2_with fail
  refine (great24_is false _ _ _ l _ (HR.out _ hb0) g).mono ?_
  rintro r w1 ⟨rfl, hb1⟩
  have h1 := below_step hb0 hb1
  clear hb1
  go_wp2_with fail
  refine (great11_is false me _ g2).mono ?_
  rintro r w2 ⟨rfl, hb2⟩
  have h2 := below_step h1 hb2
  clear hb2
  go_wp2_with fail
  refine (great11_is true ow _ g3).mono ?_
  rintro r w3 ⟨rfl, hb3⟩
  have h3 := below_step h2 hb3
  clear hb3 cme0 cme1 cme2 cme3 cme4 cme5 cow0 cow1 cow2 cow3 cow4 cow5
  go_wp2
  go_ret
  exact ⟨rfl, below_step HB.out h3⟩

theorem near_is (b : Bool) (me ow : Ent) (oa : Option Addr) (n c : Nat) (l : List Peer) (key : UInt64) (w : World) (h : RowsOf Peer.cells w oa n l) (hn : n ≤ 140737488351232) (hb : Hid (nearL me l key ow = b)) :
    Calls Try.prog 12 #[.agg #[.string me.name, .int .u64 (me.id.toNat : Int), .int .i64 me.frm, .int .i64 me.til, .int .i64 me.idx, .string me.tag], .slice oa n c, .int .u64 (key.toNat : Int), .agg #[.string ow.name, .int .u64 (ow.id.toNat : Int), .int .i64 ow.frm, .int .i64 ow.til, .int .i64 ow.idx, .string ow.tag]] w fun r w' => r = .returned (.bool b) ∧ Below w.heap.size w w' := by
  have := near12 me ow oa n c l key w h hn
  rw [hb.out] at this
  exact this

/-- the steps that all roads behind the guards share -/
theorem nearer_3 (b : Bool) (me ow : Ent) (oa : Option Addr) (n c : Nat) (l : List Peer) (key by_ : UInt64) (w : World) (h : RowsOf Peer.cells w oa n l) (hn : n ≤ 40) (g : Hid (greatL l = false)) (g2 : Hid (greatE me = false)) (g3 : Hid (greatE ow = false)) (hk : Hid (nearL me l key ow = b)) :
    Calls Try.prog 4 #[.agg #[.string me.name, .int .u64 (me.id.toNat : Int), .int .i64 me.frm, .int .i64 me.til, .int .i64 me.idx, .string me.tag], .slice oa n c, .int .u64 (key.toNat : Int), .int .u64 (by_.toNat : Int), .agg #[.string ow.name, .int .u64 (ow.id.toNat : Int), .int .i64 ow.frm, .int .i64 ow.til, .int .i64 ow.idx, .string ow.tag]] w fun r w' => r = .returned (.bool true) ∧ Below w.heap.size w w' := by
  have hb := boxed2_below w me ow
  have HR : Hid (∀ W, Below (boxed2 w me ow).heap.size (boxed2 w me ow) W → RowsOf Peer.cells W oa n l) := fun W hW => (h.below hb).below hW
  have HB := Lib.hid hb; clear h hb
  have hnn : n ≤ 140737488351232 := by omega
  have HADD : Hid (IntKind.u64.wrap ((key.toNat : Int) + (by_.toNat : Int)) = ((key + by_).toNat : Int)) := wrap_add_u64 key by_
  have hsub : IntKind.u64.wrap ((ow.id.toNat : Int) - (key.toNat : Int)) = ((dist key ow.id).toNat : Int) := wrap_sub_u64 key ow.id
  have HBT : Hid (by_.toNat ≤ (dist key ow.id).toNat → b = true → nearL me l (key + by_) ow = true) := fun h1 h2 => near_between me ow l key by_ (hk.out.trans h2) h1
  have HSF : Hid (nearL me l ow.id ow = true) := near_self me ow l
  go_enter Try.func4, Try.ntmps4
  go_wp2_with fail
  refine (works7 (boxed2 w me ow)).mono ?_
  rintro r w0 ⟨rfl, hb0⟩
  have cme0 : ∀ W, Below (boxed2 w me ow).heap.size (boxed2 w me ow) W → W.cell? ⟨w.heap.size, 0, none⟩ = some (.string me.name) := fun W hW => ((boxed2_fst w me ow).below hW).c0
  have cme1 : ∀ W, Below (boxed2 w me ow).heap.size (boxed2 w me ow) W → W.cell? ⟨w.heap.size, 1, none⟩ = some (.int .u64 (me.id.toNat : Int)) := fun W hW => ((boxed2_fst w me ow).below hW).c1
  have cme2 : ∀ W, Below (boxed2 w me ow).heap.size (boxed2 w me ow) W → W.cell? ⟨w.heap.size, 2, none⟩ = some (.int .i64 me.frm) := fun W hW => ((boxed2_fst w me ow).below hW).c2
  have cme3 : ∀ W, Below (boxed2 w me ow).heap.size (boxed2 w me ow) W → W.cell? ⟨w.heap.size, 3, none⟩ = some (.int .i64 me.til) := fun W hW => ((boxed2_fst w me ow).below hW).c3
  have cme4 : ∀ W, Below (boxed2 w me ow).heap.size (boxed2 w me ow) W → W.cell? ⟨w.heap.size, 4, none⟩ = some (.int .i64 me.idx) := fun W hW => ((boxed2_fst w me ow).below hW).c4
  have cme5 : ∀ W, Below (boxed2 w me ow).heap.size (boxed2 w me ow) W → W.cell? ⟨w.heap.size, 5, none⟩ = some (.string me.tag) := fun W hW => ((boxed2_fst w me ow).below hW).c5
  have cow0 : ∀ W, Below (boxed2 w me ow).heap.size (boxed2 w me ow) W → W.cell? ⟨w.heap.size + 1, 0, none⟩ = some (.string ow.name) := fun W hW => ((boxed2_snd w me ow).below hW).c0
  have cow1 : ∀ W, Below (boxed2 w me ow).heap.size (boxed2 w me ow) W → W.cell? ⟨w.heap.size + 1, 1, none⟩ = some (.int .u64 (ow.id.toNat : Int)) := fun W hW => ((boxed2_snd w me ow).below hW).c1
  have cow2 : ∀ W, Below (boxed2 w me ow).heap.size (boxed2 w me ow) W → W.cell? ⟨w.heap.size + 1, 2, none⟩ = some (.int .i64 ow.frm) := fun W hW => ((boxed2_snd w me ow).below hW).c2
  have cow3 : ∀ W, Below (boxed2 w me ow).heap.size (boxed2 w me ow) W → W.cell? ⟨w.heap.size + 1, 3, none⟩ = some (.int .i64 ow.til) := fun W hW => ((boxed2_snd w me ow).below hW).c3
  have cow4 : ∀ W, Below (boxed2 w me ow).heap.size (boxed2 w me ow) W → W.cell? ⟨w.heap.size + 1, 4, none⟩ = some (.int .i64 ow.idx) := fun W hW => ((boxed2_snd w me ow).below hW).c4
  have cow5 : ∀ W, Below (boxed2 w me ow).heap.size (boxed2 w me ow) W → W.cell? ⟨w.heap.size + 1, 5, none⟩ = some (.string ow.tag) := fun W hW => ((boxed2_snd w me ow).below hW).c5
  go_wp2_with fail
  refine (great24_is false _ _ _ l _ (HR.out _ hb0) g).mono ?_
  rintro r w1 ⟨rfl, hb1⟩
  have h1 := below_step hb0 hb1
  clear hb1
  go_wp2_with fail
  refine (great11_is false me _ g2).mono ?_
  rintro r w2 ⟨rfl, hb2⟩
  have h2 := below_step h1 hb2
  clear hb2
  go_wp2_with fail
  refine (great11_is false ow _ g3).mono ?_
  rintro r w3 ⟨rfl, hb3⟩
  have h3 := below_step h2 hb3
  clear hb3
  go_wp2_with fail
  refine (near_is true me ow _ _ _ l ow.id _ (HR.out _ h3) hnn HSF).mono ?_
  rintro r w4 ⟨rfl, hb4⟩
  have h4 := below_step h3 hb4
  clear hb4 hb0 h1 h2 h3
  go_wp2_with fail
  refine (near_is b me ow _ _ _ l key _ (HR.out _ h4) hnn hk).mono ?_
  rintro r w5 ⟨rfl, hb5⟩
  have h5 := below_step h4 hb5
  clear hb5 h4
  cases b with
  | false =>
    clear cme0 cme1 cme2 cme3 cme4 cme5 cow0 cow1 cow2 cow3 cow4 cow5
    go_wp2
    go_ret
    exact ⟨rfl, below_step HB.out h5⟩
  | true =>
    by_cases hgt : ((dist key ow.id).toNat : Int) < (by_.toNat : Int)
    · go_wp2
      go_ret
      exact ⟨rfl, below_step HB.out h5⟩
    · have HNB : Hid (nearL me l (key + by_) ow = true) := HBT.out (by omega) rfl
      go_wp2_with fail
      rw [HADD.out]
      refine (near_is true me ow _ _ _ l (key + by_) _ (HR.out _ h5) hnn HNB).mono ?_
      rintro r w6 ⟨rfl, hb6⟩
      have h6 := below_step h5 hb6
      clear hb6 h5 cme0 cme1 cme2 cme3 cme4 cme5 cow0 cow1 cow2 cow3 cow4 cow5
      go_wp2
      go_ret
      exact ⟨rfl, below_step HB.out h6⟩

theorem nearer_any (me ow : Ent) (oa : Option Addr) (n c : Nat) (l : List Peer) (key by_ : UInt64) (w : World) (h : RowsOf Peer.cells w oa n l) :
    Calls Try.prog 4 #[.agg #[.string me.name, .int .u64 (me.id.toNat : Int), .int .i64 me.frm, .int .i64 me.til, .int .i64 me.idx, .string me.tag], .slice oa n c, .int .u64 (key.toNat : Int), .int .u64 (by_.toNat : Int), .agg #[.string ow.name, .int .u64 (ow.id.toNat : Int), .int .i64 ow.frm, .int .i64 ow.til, .int .i64 ow.idx, .string ow.tag]] w fun r w' => r = .returned (.bool true) ∧ Below w.heap.size w w' := by
  cases g1 : greatL l with
  | true => exact nearer_0 me ow oa n c l key by_ w h g1
  | false =>
    have hn : n ≤ 40 := by
      have hl := h.len
      simp only [greatL, Bool.or_eq_false_iff, decide_eq_false_iff_not] at g1
      omega
    cases g2 : greatE me with
    | true => exact nearer_1 me ow oa n c l key by_ w h g1 g2
    | false =>
      cases g3 : greatE ow with
      | true => exact nearer_2 me ow oa n c l key by_ w h g1 g2 g3
      | false => exact nearer_3 (nearL me l key ow) me ow oa n c l key by_ w h hn g1 g2 g3 rfl

end Go.Proofs.Ytpefeoneafddkaa
