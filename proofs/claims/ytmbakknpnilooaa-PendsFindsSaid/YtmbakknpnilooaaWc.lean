/-
  Messages that are alike.
-/
import Derived.Test.YtmbakknpnilooaaWb
namespace Go.Proofs.Ytmbakknpnilooaa
open Go.RowKit Go.Proofs.Ytmbakknpnilooaa.Plan Go.Proofs.Ytmbakknpnilooaa.Eager
set_option maxHeartbeats 4000000
set_option maxRecDepth 20000
set_option linter.unusedVariables false
set_option linter.unusedSimpArgs false

theorem msgSame36 (a b : Mg) (w : World) (ha : a.Good w) (hb : b.Good w) :
    Calls Try.prog 36 #[.agg a.cells.toArray, .agg b.cells.toArray] w fun r w' => r = .returned (.bool (decide (a.c = b.c))) ∧ Below w.heap.size w w' := by
  have hal : Below w.heap.size w ((w.alloc (.cells a.cells.toArray 30)).alloc (.cells b.cells.toArray 30)) := by (with_reducible try refine Lib.hid ?_); (repeat (with_reducible first | assumption | exact Below.refl _ _ | apply Below.drew | apply Below.drewN' | apply Below.setCell | apply Below.alloc)) <;> (try simp [length_fillTo, length_turnTo]) <;> (try omega)
  have hX : Blk ((w.alloc (.cells a.cells.toArray 30)).alloc (.cells b.cells.toArray 30)) w.heap.size a.cells := Blk.alloc (Blk.new' rfl) _
  have hY : Blk ((w.alloc (.cells a.cells.toArray 30)).alloc (.cells b.cells.toArray 30)) (w.heap.size + 1) b.cells := by
    have := Blk.new' (w := w.alloc (.cells a.cells.toArray 30)) (cs := b.cells) (e := 30) rfl
    simpa using this
  have HAE := Lib.hid (ha.es.below hal); have HAI := Lib.hid (ha.its.below hal); have HBE := Lib.hid (hb.es.below hal); have HBI := Lib.hid (hb.its.below hal)
  have HB := Lib.hid hal
  obtain ⟨⟨a0, a1, a2, a3, a4, a5, a6, a7, a8, aes, ait⟩, aeo, aec, aio, aic⟩ := a
  obtain ⟨⟨b0, b1, b2, b3, b4, b5, b6, b7, b8, bes, bit⟩, beo, bec, bio, bic⟩ := b
  simp only at HAE HAI HBE HBI
  have x0 : ((w.alloc (.cells (Mg.cells ⟨⟨a0, a1, a2, a3, a4, a5, a6, a7, a8, aes, ait⟩, aeo, aec, aio, aic⟩).toArray 30)).alloc (.cells (Mg.cells ⟨⟨b0, b1, b2, b3, b4, b5, b6, b7, b8, bes, bit⟩, beo, bec, bio, bic⟩).toArray 30)).cell? ⟨w.heap.size, 0, none⟩ = some (.int .i64 a0) := mg_at hX 0 (by omega)
  have x1 : ((w.alloc (.cells (Mg.cells ⟨⟨a0, a1, a2, a3, a4, a5, a6, a7, a8, aes, ait⟩, aeo, aec, aio, aic⟩).toArray 30)).alloc (.cells (Mg.cells ⟨⟨b0, b1, b2, b3, b4, b5, b6, b7, b8, bes, bit⟩, beo, bec, bio, bic⟩).toArray 30)).cell? ⟨w.heap.size, 1, none⟩ = some (.int .i64 a1) := mg_at hX 1 (by omega)
  have x2 : ((w.alloc (.cells (Mg.cells ⟨⟨a0, a1, a2, a3, a4, a5, a6, a7, a8, aes, ait⟩, aeo, aec, aio, aic⟩).toArray 30)).alloc (.cells (Mg.cells ⟨⟨b0, b1, b2, b3, b4, b5, b6, b7, b8, bes, bit⟩, beo, bec, bio, bic⟩).toArray 30)).cell? ⟨w.heap.size, 2, none⟩ = some (.int .i64 a2) := mg_at hX 2 (by omega)
  have x3 : ((w.alloc (.cells (Mg.cells ⟨⟨a0, a1, a2, a3, a4, a5, a6, a7, a8, aes, ait⟩, aeo, aec, aio, aic⟩).toArray 30)).alloc (.cells (Mg.cells ⟨⟨b0, b1, b2, b3, b4, b5, b6, b7, b8, bes, bit⟩, beo, bec, bio, bic⟩).toArray 30)).cell? ⟨w.heap.size, 3, none⟩ = some (.int .i64 a3) := mg_at hX 3 (by omega)
  have x4 : ((w.alloc (.cells (Mg.cells ⟨⟨a0, a1, a2, a3, a4, a5, a6, a7, a8, aes, ait⟩, aeo, aec, aio, aic⟩).toArray 30)).alloc (.cells (Mg.cells ⟨⟨b0, b1, b2, b3, b4, b5, b6, b7, b8, bes, bit⟩, beo, bec, bio, bic⟩).toArray 30)).cell? ⟨w.heap.size, 4, none⟩ = some (.int .u64 a4) := mg_at hX 4 (by omega)
  have x5 : ((w.alloc (.cells (Mg.cells ⟨⟨a0, a1, a2, a3, a4, a5, a6, a7, a8, aes, ait⟩, aeo, aec, aio, aic⟩).toArray 30)).alloc (.cells (Mg.cells ⟨⟨b0, b1, b2, b3, b4, b5, b6, b7, b8, bes, bit⟩, beo, bec, bio, bic⟩).toArray 30)).cell? ⟨w.heap.size, 5, none⟩ = some (.bool a5) := mg_at hX 5 (by omega)
  have x6 : ((w.alloc (.cells (Mg.cells ⟨⟨a0, a1, a2, a3, a4, a5, a6, a7, a8, aes, ait⟩, aeo, aec, aio, aic⟩).toArray 30)).alloc (.cells (Mg.cells ⟨⟨b0, b1, b2, b3, b4, b5, b6, b7, b8, bes, bit⟩, beo, bec, bio, bic⟩).toArray 30)).cell? ⟨w.heap.size, 6, none⟩ = some (.bool a6) := mg_at hX 6 (by omega)
  have x7 : ((w.alloc (.cells (Mg.cells ⟨⟨a0, a1, a2, a3, a4, a5, a6, a7, a8, aes, ait⟩, aeo, aec, aio, aic⟩).toArray 30)).alloc (.cells (Mg.cells ⟨⟨b0, b1, b2, b3, b4, b5, b6, b7, b8, bes, bit⟩, beo, bec, bio, bic⟩).toArray 30)).cell? ⟨w.heap.size, 7, none⟩ = some (.string a7) := mg_at hX 7 (by omega)
  have x8 : ((w.alloc (.cells (Mg.cells ⟨⟨a0, a1, a2, a3, a4, a5, a6, a7, a8, aes, ait⟩, aeo, aec, aio, aic⟩).toArray 30)).alloc (.cells (Mg.cells ⟨⟨b0, b1, b2, b3, b4, b5, b6, b7, b8, bes, bit⟩, beo, bec, bio, bic⟩).toArray 30)).cell? ⟨w.heap.size, 8, none⟩ = some (.string a8) := mg_at hX 8 (by omega)
  have x9 : ((w.alloc (.cells (Mg.cells ⟨⟨a0, a1, a2, a3, a4, a5, a6, a7, a8, aes, ait⟩, aeo, aec, aio, aic⟩).toArray 30)).alloc (.cells (Mg.cells ⟨⟨b0, b1, b2, b3, b4, b5, b6, b7, b8, bes, bit⟩, beo, bec, bio, bic⟩).toArray 30)).cell? ⟨w.heap.size, 9, none⟩ = some (.slice aeo aes.length aec) := mg_at hX 9 (by omega)
  have x10 : ((w.alloc (.cells (Mg.cells ⟨⟨a0, a1, a2, a3, a4, a5, a6, a7, a8, aes, ait⟩, aeo, aec, aio, aic⟩).toArray 30)).alloc (.cells (Mg.cells ⟨⟨b0, b1, b2, b3, b4, b5, b6, b7, b8, bes, bit⟩, beo, bec, bio, bic⟩).toArray 30)).cell? ⟨w.heap.size, 10, none⟩ = some (.slice aio ait.length aic) := mg_at hX 10 (by omega)
  have y0 : ((w.alloc (.cells (Mg.cells ⟨⟨a0, a1, a2, a3, a4, a5, a6, a7, a8, aes, ait⟩, aeo, aec, aio, aic⟩).toArray 30)).alloc (.cells (Mg.cells ⟨⟨b0, b1, b2, b3, b4, b5, b6, b7, b8, bes, bit⟩, beo, bec, bio, bic⟩).toArray 30)).cell? ⟨w.heap.size + 1, 0, none⟩ = some (.int .i64 b0) := mg_at hY 0 (by omega)
  have y1 : ((w.alloc (.cells (Mg.cells ⟨⟨a0, a1, a2, a3, a4, a5, a6, a7, a8, aes, ait⟩, aeo, aec, aio, aic⟩).toArray 30)).alloc (.cells (Mg.cells ⟨⟨b0, b1, b2, b3, b4, b5, b6, b7, b8, bes, bit⟩, beo, bec, bio, bic⟩).toArray 30)).cell? ⟨w.heap.size + 1, 1, none⟩ = some (.int .i64 b1) := mg_at hY 1 (by omega)
  have y2 : ((w.alloc (.cells (Mg.cells ⟨⟨a0, a1, a2, a3, a4, a5, a6, a7, a8, aes, ait⟩, aeo, aec, aio, aic⟩).toArray 30)).alloc (.cells (Mg.cells ⟨⟨b0, b1, b2, b3, b4, b5, b6, b7, b8, bes, bit⟩, beo, bec, bio, bic⟩).toArray 30)).cell? ⟨w.heap.size + 1, 2, none⟩ = some (.int .i64 b2) := mg_at hY 2 (by omega)
  have y3 : ((w.alloc (.cells (Mg.cells ⟨⟨a0, a1, a2, a3, a4, a5, a6, a7, a8, aes, ait⟩, aeo, aec, aio, aic⟩).toArray 30)).alloc (.cells (Mg.cells ⟨⟨b0, b1, b2, b3, b4, b5, b6, b7, b8, bes, bit⟩, beo, bec, bio, bic⟩).toArray 30)).cell? ⟨w.heap.size + 1, 3, none⟩ = some (.int .i64 b3) := mg_at hY 3 (by omega)
  have y4 : ((w.alloc (.cells (Mg.cells ⟨⟨a0, a1, a2, a3, a4, a5, a6, a7, a8, aes, ait⟩, aeo, aec, aio, aic⟩).toArray 30)).alloc (.cells (Mg.cells ⟨⟨b0, b1, b2, b3, b4, b5, b6, b7, b8, bes, bit⟩, beo, bec, bio, bic⟩).toArray 30)).cell? ⟨w.heap.size + 1, 4, none⟩ = some (.int .u64 b4) := mg_at hY 4 (by omega)
  have y5 : ((w.alloc (.cells (Mg.cells ⟨⟨a0, a1, a2, a3, a4, a5, a6, a7, a8, aes, ait⟩, aeo, aec, aio, aic⟩).toArray 30)).alloc (.cells (Mg.cells ⟨⟨b0, b1, b2, b3, b4, b5, b6, b7, b8, bes, bit⟩, beo, bec, bio, bic⟩).toArray 30)).cell? ⟨w.heap.size + 1, 5, none⟩ = some (.bool b5) := mg_at hY 5 (by omega)
  have y6 : ((w.alloc (.cells (Mg.cells ⟨⟨a0, a1, a2, a3, a4, a5, a6, a7, a8, aes, ait⟩, aeo, aec, aio, aic⟩).toArray 30)).alloc (.cells (Mg.cells ⟨⟨b0, b1, b2, b3, b4, b5, b6, b7, b8, bes, bit⟩, beo, bec, bio, bic⟩).toArray 30)).cell? ⟨w.heap.size + 1, 6, none⟩ = some (.bool b6) := mg_at hY 6 (by omega)
  have y7 : ((w.alloc (.cells (Mg.cells ⟨⟨a0, a1, a2, a3, a4, a5, a6, a7, a8, aes, ait⟩, aeo, aec, aio, aic⟩).toArray 30)).alloc (.cells (Mg.cells ⟨⟨b0, b1, b2, b3, b4, b5, b6, b7, b8, bes, bit⟩, beo, bec, bio, bic⟩).toArray 30)).cell? ⟨w.heap.size + 1, 7, none⟩ = some (.string b7) := mg_at hY 7 (by omega)
  have y8 : ((w.alloc (.cells (Mg.cells ⟨⟨a0, a1, a2, a3, a4, a5, a6, a7, a8, aes, ait⟩, aeo, aec, aio, aic⟩).toArray 30)).alloc (.cells (Mg.cells ⟨⟨b0, b1, b2, b3, b4, b5, b6, b7, b8, bes, bit⟩, beo, bec, bio, bic⟩).toArray 30)).cell? ⟨w.heap.size + 1, 8, none⟩ = some (.string b8) := mg_at hY 8 (by omega)
  have y9 : ((w.alloc (.cells (Mg.cells ⟨⟨a0, a1, a2, a3, a4, a5, a6, a7, a8, aes, ait⟩, aeo, aec, aio, aic⟩).toArray 30)).alloc (.cells (Mg.cells ⟨⟨b0, b1, b2, b3, b4, b5, b6, b7, b8, bes, bit⟩, beo, bec, bio, bic⟩).toArray 30)).cell? ⟨w.heap.size + 1, 9, none⟩ = some (.slice beo bes.length bec) := mg_at hY 9 (by omega)
  have y10 : ((w.alloc (.cells (Mg.cells ⟨⟨a0, a1, a2, a3, a4, a5, a6, a7, a8, aes, ait⟩, aeo, aec, aio, aic⟩).toArray 30)).alloc (.cells (Mg.cells ⟨⟨b0, b1, b2, b3, b4, b5, b6, b7, b8, bes, bit⟩, beo, bec, bio, bic⟩).toArray 30)).cell? ⟨w.heap.size + 1, 10, none⟩ = some (.slice bio bit.length bic) := mg_at hY 10 (by omega)
  have hxl := hX.lt
  have hyl := hY.lt
  clear hX hY hal ha hb
  by_cases h0 : a0 = b0
  rotate_left
  · have HN : Hid (decide ((⟨a0, a1, a2, a3, a4, a5, a6, a7, a8, aes, ait⟩ : MC) = (⟨b0, b1, b2, b3, b4, b5, b6, b7, b8, bes, bit⟩ : MC)) = false) := by show _ = _; simp [h0]
    go_enter Try.func36, Try.ntmps36
    go_wp2
    refine bodyPost_ret (v := .bool false) (by simp [results, Try.results36, go_sem]) rfl ⟨by rw [HN.out], HB.out⟩
  subst h0
  by_cases h1 : a1 = b1
  rotate_left
  · have HN : Hid (decide ((⟨a0, a1, a2, a3, a4, a5, a6, a7, a8, aes, ait⟩ : MC) = (⟨a0, b1, b2, b3, b4, b5, b6, b7, b8, bes, bit⟩ : MC)) = false) := by show _ = _; simp [h1]
    go_enter Try.func36, Try.ntmps36
    go_wp2
    refine bodyPost_ret (v := .bool false) (by simp [results, Try.results36, go_sem]) rfl ⟨by rw [HN.out], HB.out⟩
  subst h1
  by_cases h2 : a2 = b2
  rotate_left
  · have HN : Hid (decide ((⟨a0, a1, a2, a3, a4, a5, a6, a7, a8, aes, ait⟩ : MC) = (⟨a0, a1, b2, b3, b4, b5, b6, b7, b8, bes, bit⟩ : MC)) = false) := by show _ = _; simp [h2]
    go_enter Try.func36, Try.ntmps36
    go_wp2
    refine bodyPost_ret (v := .bool false) (by simp [results, Try.results36, go_sem]) rfl ⟨by rw [HN.out], HB.out⟩
  subst h2
  by_cases h3 : a3 = b3
  rotate_left
  · have HN : Hid (decide ((⟨a0, a1, a2, a3, a4, a5, a6, a7, a8, aes, ait⟩ : MC) = (⟨a0, a1, a2, b3, b4, b5, b6, b7, b8, bes, bit⟩ : MC)) = false) := by show _ = _; simp [h3]
    go_enter Try.func36, Try.ntmps36
    go_wp2
    refine bodyPost_ret (v := .bool false) (by simp [results, Try.results36, go_sem]) rfl ⟨by rw [HN.out], HB.out⟩
  subst h3
  by_cases h4 : a4 = b4
  rotate_left
  · have HN : Hid (decide ((⟨a0, a1, a2, a3, a4, a5, a6, a7, a8, aes, ait⟩ : MC) = (⟨a0, a1, a2, a3, b4, b5, b6, b7, b8, bes, bit⟩ : MC)) = false) := by show _ = _; simp [h4]
    have h4i : ¬ (a4 : Int) = (b4 : Int) := by omega
    go_enter Try.func36, Try.ntmps36
    go_wp2
    refine bodyPost_ret (v := .bool false) (by simp [results, Try.results36, go_sem]) rfl ⟨by rw [HN.out], HB.out⟩
  subst h4
  by_cases h5 : a5 = b5
  rotate_left
  · have HN : Hid (decide ((⟨a0, a1, a2, a3, a4, a5, a6, a7, a8, aes, ait⟩ : MC) = (⟨a0, a1, a2, a3, a4, b5, b6, b7, b8, bes, bit⟩ : MC)) = false) := by show _ = _; simp [h5]
    have h5i : (a5 == b5) = false := by simp [h5]
    go_enter Try.func36, Try.ntmps36
    go_wp2
    refine bodyPost_ret (v := .bool false) (by simp [results, Try.results36, go_sem]) rfl ⟨by rw [HN.out], HB.out⟩
  subst h5
  by_cases h6 : a6 = b6
  rotate_left
  · have HN : Hid (decide ((⟨a0, a1, a2, a3, a4, a5, a6, a7, a8, aes, ait⟩ : MC) = (⟨a0, a1, a2, a3, a4, a5, b6, b7, b8, bes, bit⟩ : MC)) = false) := by show _ = _; simp [h6]
    have h6i : (a6 == b6) = false := by simp [h6]
    go_enter Try.func36, Try.ntmps36
    go_wp2
    refine bodyPost_ret (v := .bool false) (by simp [results, Try.results36, go_sem]) rfl ⟨by rw [HN.out], HB.out⟩
  subst h6
  by_cases h7 : a7 = b7
  rotate_left
  · have HN : Hid (decide ((⟨a0, a1, a2, a3, a4, a5, a6, a7, a8, aes, ait⟩ : MC) = (⟨a0, a1, a2, a3, a4, a5, a6, b7, b8, bes, bit⟩ : MC)) = false) := by show _ = _; simp [h7]
    have h7i := strne h7
    go_enter Try.func36, Try.ntmps36
    go_wp2
    refine bodyPost_ret (v := .bool false) (by simp [results, Try.results36, go_sem]) rfl ⟨by rw [HN.out], HB.out⟩
  subst h7
  by_cases h8 : a8 = b8
  rotate_left
  · have HN : Hid (decide ((⟨a0, a1, a2, a3, a4, a5, a6, a7, a8, aes, ait⟩ : MC) = (⟨a0, a1, a2, a3, a4, a5, a6, a7, b8, bes, bit⟩ : MC)) = false) := by show _ = _; simp [h8]
    have h8i := strne h8
    go_enter Try.func36, Try.ntmps36
    go_wp2
    refine bodyPost_ret (v := .bool false) (by simp [results, Try.results36, go_sem]) rfl ⟨by rw [HN.out], HB.out⟩
  subst h8
  have HV : Hid (decide ((⟨a0, a1, a2, a3, a4, a5, a6, a7, a8, aes, ait⟩ : MC) = (⟨a0, a1, a2, a3, a4, a5, a6, a7, a8, bes, bit⟩ : MC)) = (decide (aes = bes) && decide (ait = bit))) := by
    show _ = _
    by_cases h1 : aes = bes <;> by_cases h2 : ait = bit <;> simp [h1, h2]
  go_enter Try.func36, Try.ntmps36
  go_wp2_with fail
  refine (same49 aes bes _ aeo beo _ _ aec bec HAE.out HBE.out).mono ?_
  rintro r w1 ⟨rfl, hb⟩
  have hal2 := HB.out
  have HB1 := Lib.hid (below_step hal2 hb)
  have HAI1 := Lib.hid (HAI.out.below hb); have HBI1 := Lib.hid (HBI.out.below hb)
  have x10 := cell_later x10 hb
  have y10 := cell_later y10 hb
  clear hb hal2 HB HAI HBI HAE HBE x0 x1 x2 x3 x4 x5 x6 x7 x8 x9 y0 y1 y2 y3 y4 y5 y6 y7 y8 y9
  by_cases he : aes = bes
  · rw [decide_eq_true he] at HV ⊢
    go_wp2_with fail
    refine (same50 ait bit _ aio bio _ _ aic bic HAI1.out HBI1.out).mono ?_
    rintro r w2 ⟨rfl, hb⟩
    have HB2 := Lib.hid (below_step HB1.out hb)
    clear hb HB1 HAI1 HBI1 x10 y10
    go_wp2
    refine bodyPost_ret (v := .bool (decide (ait = bit))) (by simp [results, Try.results36, go_sem]) rfl ⟨by rw [HV.out]; simp, HB2.out⟩
  · rw [decide_eq_false he] at HV ⊢
    clear he
    go_wp2
    refine bodyPost_ret (v := .bool false) (by simp [results, Try.results36, go_sem]) rfl ⟨by rw [HV.out]; simp, HB1.out⟩

theorem refMsg48 (a b : Mg) (w : World) (ha : a.Good w) (hb : b.Good w) :
    Calls Try.prog 48 #[.agg a.cells.toArray, .agg b.cells.toArray] w fun r w' => r = .returned (.bool (decide (a.c = b.c))) ∧ Below w.heap.size w w' := by
  have hal : Below w.heap.size w ((w.alloc (.cells a.cells.toArray 30)).alloc (.cells b.cells.toArray 30)) := by (with_reducible try refine Lib.hid ?_); (repeat (with_reducible first | assumption | exact Below.refl _ _ | apply Below.drew | apply Below.drewN' | apply Below.setCell | apply Below.alloc)) <;> (try simp [length_fillTo, length_turnTo]) <;> (try omega)
  have hX : Blk ((w.alloc (.cells a.cells.toArray 30)).alloc (.cells b.cells.toArray 30)) w.heap.size a.cells := Blk.alloc (Blk.new' rfl) _
  have hY : Blk ((w.alloc (.cells a.cells.toArray 30)).alloc (.cells b.cells.toArray 30)) (w.heap.size + 1) b.cells := by
    have := Blk.new' (w := w.alloc (.cells a.cells.toArray 30)) (cs := b.cells) (e := 30) rfl
    simpa using this
  have HAE := Lib.hid (ha.es.below hal); have HAI := Lib.hid (ha.its.below hal); have HBE := Lib.hid (hb.es.below hal); have HBI := Lib.hid (hb.its.below hal)
  have HB := Lib.hid hal
  obtain ⟨⟨a0, a1, a2, a3, a4, a5, a6, a7, a8, aes, ait⟩, aeo, aec, aio, aic⟩ := a
  obtain ⟨⟨b0, b1, b2, b3, b4, b5, b6, b7, b8, bes, bit⟩, beo, bec, bio, bic⟩ := b
  simp only at HAE HAI HBE HBI
  have x0 : ((w.alloc (.cells (Mg.cells ⟨⟨a0, a1, a2, a3, a4, a5, a6, a7, a8, aes, ait⟩, aeo, aec, aio, aic⟩).toArray 30)).alloc (.cells (Mg.cells ⟨⟨b0, b1, b2, b3, b4, b5, b6, b7, b8, bes, bit⟩, beo, bec, bio, bic⟩).toArray 30)).cell? ⟨w.heap.size, 0, none⟩ = some (.int .i64 a0) := mg_at hX 0 (by omega)
  have x1 : ((w.alloc (.cells (Mg.cells ⟨⟨a0, a1, a2, a3, a4, a5, a6, a7, a8, aes, ait⟩, aeo, aec, aio, aic⟩).toArray 30)).alloc (.cells (Mg.cells ⟨⟨b0, b1, b2, b3, b4, b5, b6, b7, b8, bes, bit⟩, beo, bec, bio, bic⟩).toArray 30)).cell? ⟨w.heap.size, 1, none⟩ = some (.int .i64 a1) := mg_at hX 1 (by omega)
  have x2 : ((w.alloc (.cells (Mg.cells ⟨⟨a0, a1, a2, a3, a4, a5, a6, a7, a8, aes, ait⟩, aeo, aec, aio, aic⟩).toArray 30)).alloc (.cells (Mg.cells ⟨⟨b0, b1, b2, b3, b4, b5, b6, b7, b8, bes, bit⟩, beo, bec, bio, bic⟩).toArray 30)).cell? ⟨w.heap.size, 2, none⟩ = some (.int .i64 a2) := mg_at hX 2 (by omega)
  have x3 : ((w.alloc (.cells (Mg.cells ⟨⟨a0, a1, a2, a3, a4, a5, a6, a7, a8, aes, ait⟩, aeo, aec, aio, aic⟩).toArray 30)).alloc (.cells (Mg.cells ⟨⟨b0, b1, b2, b3, b4, b5, b6, b7, b8, bes, bit⟩, beo, bec, bio, bic⟩).toArray 30)).cell? ⟨w.heap.size, 3, none⟩ = some (.int .i64 a3) := mg_at hX 3 (by omega)
  have x4 : ((w.alloc (.cells (Mg.cells ⟨⟨a0, a1, a2, a3, a4, a5, a6, a7, a8, aes, ait⟩, aeo, aec, aio, aic⟩).toArray 30)).alloc (.cells (Mg.cells ⟨⟨b0, b1, b2, b3, b4, b5, b6, b7, b8, bes, bit⟩, beo, bec, bio, bic⟩).toArray 30)).cell? ⟨w.heap.size, 4, none⟩ = some (.int .u64 a4) := mg_at hX 4 (by omega)
  have x5 : ((w.alloc (.cells (Mg.cells ⟨⟨a0, a1, a2, a3, a4, a5, a6, a7, a8, aes, ait⟩, aeo, aec, aio, aic⟩).toArray 30)).alloc (.cells (Mg.cells ⟨⟨b0, b1, b2, b3, b4, b5, b6, b7, b8, bes, bit⟩, beo, bec, bio, bic⟩).toArray 30)).cell? ⟨w.heap.size, 5, none⟩ = some (.bool a5) := mg_at hX 5 (by omega)
  have x6 : ((w.alloc (.cells (Mg.cells ⟨⟨a0, a1, a2, a3, a4, a5, a6, a7, a8, aes, ait⟩, aeo, aec, aio, aic⟩).toArray 30)).alloc (.cells (Mg.cells ⟨⟨b0, b1, b2, b3, b4, b5, b6, b7, b8, bes, bit⟩, beo, bec, bio, bic⟩).toArray 30)).cell? ⟨w.heap.size, 6, none⟩ = some (.bool a6) := mg_at hX 6 (by omega)
  have x7 : ((w.alloc (.cells (Mg.cells ⟨⟨a0, a1, a2, a3, a4, a5, a6, a7, a8, aes, ait⟩, aeo, aec, aio, aic⟩).toArray 30)).alloc (.cells (Mg.cells ⟨⟨b0, b1, b2, b3, b4, b5, b6, b7, b8, bes, bit⟩, beo, bec, bio, bic⟩).toArray 30)).cell? ⟨w.heap.size, 7, none⟩ = some (.string a7) := mg_at hX 7 (by omega)
  have x8 : ((w.alloc (.cells (Mg.cells ⟨⟨a0, a1, a2, a3, a4, a5, a6, a7, a8, aes, ait⟩, aeo, aec, aio, aic⟩).toArray 30)).alloc (.cells (Mg.cells ⟨⟨b0, b1, b2, b3, b4, b5, b6, b7, b8, bes, bit⟩, beo, bec, bio, bic⟩).toArray 30)).cell? ⟨w.heap.size, 8, none⟩ = some (.string a8) := mg_at hX 8 (by omega)
  have x9 : ((w.alloc (.cells (Mg.cells ⟨⟨a0, a1, a2, a3, a4, a5, a6, a7, a8, aes, ait⟩, aeo, aec, aio, aic⟩).toArray 30)).alloc (.cells (Mg.cells ⟨⟨b0, b1, b2, b3, b4, b5, b6, b7, b8, bes, bit⟩, beo, bec, bio, bic⟩).toArray 30)).cell? ⟨w.heap.size, 9, none⟩ = some (.slice aeo aes.length aec) := mg_at hX 9 (by omega)
  have x10 : ((w.alloc (.cells (Mg.cells ⟨⟨a0, a1, a2, a3, a4, a5, a6, a7, a8, aes, ait⟩, aeo, aec, aio, aic⟩).toArray 30)).alloc (.cells (Mg.cells ⟨⟨b0, b1, b2, b3, b4, b5, b6, b7, b8, bes, bit⟩, beo, bec, bio, bic⟩).toArray 30)).cell? ⟨w.heap.size, 10, none⟩ = some (.slice aio ait.length aic) := mg_at hX 10 (by omega)
  have y0 : ((w.alloc (.cells (Mg.cells ⟨⟨a0, a1, a2, a3, a4, a5, a6, a7, a8, aes, ait⟩, aeo, aec, aio, aic⟩).toArray 30)).alloc (.cells (Mg.cells ⟨⟨b0, b1, b2, b3, b4, b5, b6, b7, b8, bes, bit⟩, beo, bec, bio, bic⟩).toArray 30)).cell? ⟨w.heap.size + 1, 0, none⟩ = some (.int .i64 b0) := mg_at hY 0 (by omega)
  have y1 : ((w.alloc (.cells (Mg.cells ⟨⟨a0, a1, a2, a3, a4, a5, a6, a7, a8, aes, ait⟩, aeo, aec, aio, aic⟩).toArray 30)).alloc (.cells (Mg.cells ⟨⟨b0, b1, b2, b3, b4, b5, b6, b7, b8, bes, bit⟩, beo, bec, bio, bic⟩).toArray 30)).cell? ⟨w.heap.size + 1, 1, none⟩ = some (.int .i64 b1) := mg_at hY 1 (by omega)
  have y2 : ((w.alloc (.cells (Mg.cells ⟨⟨a0, a1, a2, a3, a4, a5, a6, a7, a8, aes, ait⟩, aeo, aec, aio, aic⟩).toArray 30)).alloc (.cells (Mg.cells ⟨⟨b0, b1, b2, b3, b4, b5, b6, b7, b8, bes, bit⟩, beo, bec, bio, bic⟩).toArray 30)).cell? ⟨w.heap.size + 1, 2, none⟩ = some (.int .i64 b2) := mg_at hY 2 (by omega)
  have y3 : ((w.alloc (.cells (Mg.cells ⟨⟨a0, a1, a2, a3, a4, a5, a6, a7, a8, aes, ait⟩, aeo, aec, aio, aic⟩).toArray 30)).alloc (.cells (Mg.cells ⟨⟨b0, b1, b2, b3, b4, b5, b6, b7, b8, bes, bit⟩, beo, bec, bio, bic⟩).toArray 30)).cell? ⟨w.heap.size + 1, 3, none⟩ = some (.int .i64 b3) := mg_at hY 3 (by omega)
  have y4 : ((w.alloc (.cells (Mg.cells ⟨⟨a0, a1, a2, a3, a4, a5, a6, a7, a8, aes, ait⟩, aeo, aec, aio, aic⟩).toArray 30)).alloc (.cells (Mg.cells ⟨⟨b0, b1, b2, b3, b4, b5, b6, b7, b8, bes, bit⟩, beo, bec, bio, bic⟩).toArray 30)).cell? ⟨w.heap.size + 1, 4, none⟩ = some (.int .u64 b4) := mg_at hY 4 (by omega)
  have y5 : ((w.alloc (.cells (Mg.cells ⟨⟨a0, a1, a2, a3, a4, a5, a6, a7, a8, aes, ait⟩, aeo, aec, aio, aic⟩).toArray 30)).alloc (.cells (Mg.cells ⟨⟨b0, b1, b2, b3, b4, b5, b6, b7, b8, bes, bit⟩, beo, bec, bio, bic⟩).toArray 30)).cell? ⟨w.heap.size + 1, 5, none⟩ = some (.bool b5) := mg_at hY 5 (by omega)
  have y6 : ((w.alloc (.cells (Mg.cells ⟨⟨a0, a1, a2, a3, a4, a5, a6, a7, a8, aes, ait⟩, aeo, aec, aio, aic⟩).toArray 30)).alloc (.cells (Mg.cells ⟨⟨b0, b1, b2, b3, b4, b5, b6, b7, b8, bes, bit⟩, beo, bec, bio, bic⟩).toArray 30)).cell? ⟨w.heap.size + 1, 6, none⟩ = some (.bool b6) := mg_at hY 6 (by omega)
  have y7 : ((w.alloc (.cells (Mg.cells ⟨⟨a0, a1, a2, a3, a4, a5, a6, a7, a8, aes, ait⟩, aeo, aec, aio, aic⟩).toArray 30)).alloc (.cells (Mg.cells ⟨⟨b0, b1, b2, b3, b4, b5, b6, b7, b8, bes, bit⟩, beo, bec, bio, bic⟩).toArray 30)).cell? ⟨w.heap.size + 1, 7, none⟩ = some (.string b7) := mg_at hY 7 (by omega)
  have y8 : ((w.alloc (.cells (Mg.cells ⟨⟨a0, a1, a2, a3, a4, a5, a6, a7, a8, aes, ait⟩, aeo, aec, aio, aic⟩).toArray 30)).alloc (.cells (Mg.cells ⟨⟨b0, b1, b2, b3, b4, b5, b6, b7, b8, bes, bit⟩, beo, bec, bio, bic⟩).toArray 30)).cell? ⟨w.heap.size + 1, 8, none⟩ = some (.string b8) := mg_at hY 8 (by omega)
  have y9 : ((w.alloc (.cells (Mg.cells ⟨⟨a0, a1, a2, a3, a4, a5, a6, a7, a8, aes, ait⟩, aeo, aec, aio, aic⟩).toArray 30)).alloc (.cells (Mg.cells ⟨⟨b0, b1, b2, b3, b4, b5, b6, b7, b8, bes, bit⟩, beo, bec, bio, bic⟩).toArray 30)).cell? ⟨w.heap.size + 1, 9, none⟩ = some (.slice beo bes.length bec) := mg_at hY 9 (by omega)
  have y10 : ((w.alloc (.cells (Mg.cells ⟨⟨a0, a1, a2, a3, a4, a5, a6, a7, a8, aes, ait⟩, aeo, aec, aio, aic⟩).toArray 30)).alloc (.cells (Mg.cells ⟨⟨b0, b1, b2, b3, b4, b5, b6, b7, b8, bes, bit⟩, beo, bec, bio, bic⟩).toArray 30)).cell? ⟨w.heap.size + 1, 10, none⟩ = some (.slice bio bit.length bic) := mg_at hY 10 (by omega)
  have hxl := hX.lt
  have hyl := hY.lt
  clear hX hY hal ha hb
  by_cases h0 : a0 = b0
  rotate_left
  · have HN : Hid (decide ((⟨a0, a1, a2, a3, a4, a5, a6, a7, a8, aes, ait⟩ : MC) = (⟨b0, b1, b2, b3, b4, b5, b6, b7, b8, bes, bit⟩ : MC)) = false) := by show _ = _; simp [h0]
    go_enter Try.func48, Try.ntmps48
    go_wp2
    refine bodyPost_ret (v := .bool false) (by simp [results, Try.results48, go_sem]) rfl ⟨by rw [HN.out], HB.out⟩
  subst h0
  by_cases h1 : a1 = b1
  rotate_left
  · have HN : Hid (decide ((⟨a0, a1, a2, a3, a4, a5, a6, a7, a8, aes, ait⟩ : MC) = (⟨a0, b1, b2, b3, b4, b5, b6, b7, b8, bes, bit⟩ : MC)) = false) := by show _ = _; simp [h1]
    go_enter Try.func48, Try.ntmps48
    go_wp2
    refine bodyPost_ret (v := .bool false) (by simp [results, Try.results48, go_sem]) rfl ⟨by rw [HN.out], HB.out⟩
  subst h1
  by_cases h2 : a2 = b2
  rotate_left
  · have HN : Hid (decide ((⟨a0, a1, a2, a3, a4, a5, a6, a7, a8, aes, ait⟩ : MC) = (⟨a0, a1, b2, b3, b4, b5, b6, b7, b8, bes, bit⟩ : MC)) = false) := by show _ = _; simp [h2]
    go_enter Try.func48, Try.ntmps48
    go_wp2
    refine bodyPost_ret (v := .bool false) (by simp [results, Try.results48, go_sem]) rfl ⟨by rw [HN.out], HB.out⟩
  subst h2
  by_cases h3 : a3 = b3
  rotate_left
  · have HN : Hid (decide ((⟨a0, a1, a2, a3, a4, a5, a6, a7, a8, aes, ait⟩ : MC) = (⟨a0, a1, a2, b3, b4, b5, b6, b7, b8, bes, bit⟩ : MC)) = false) := by show _ = _; simp [h3]
    go_enter Try.func48, Try.ntmps48
    go_wp2
    refine bodyPost_ret (v := .bool false) (by simp [results, Try.results48, go_sem]) rfl ⟨by rw [HN.out], HB.out⟩
  subst h3
  by_cases h4 : a4 = b4
  rotate_left
  · have HN : Hid (decide ((⟨a0, a1, a2, a3, a4, a5, a6, a7, a8, aes, ait⟩ : MC) = (⟨a0, a1, a2, a3, b4, b5, b6, b7, b8, bes, bit⟩ : MC)) = false) := by show _ = _; simp [h4]
    have h4i : ¬ (a4 : Int) = (b4 : Int) := by omega
    go_enter Try.func48, Try.ntmps48
    go_wp2
    refine bodyPost_ret (v := .bool false) (by simp [results, Try.results48, go_sem]) rfl ⟨by rw [HN.out], HB.out⟩
  subst h4
  by_cases h5 : a5 = b5
  rotate_left
  · have HN : Hid (decide ((⟨a0, a1, a2, a3, a4, a5, a6, a7, a8, aes, ait⟩ : MC) = (⟨a0, a1, a2, a3, a4, b5, b6, b7, b8, bes, bit⟩ : MC)) = false) := by show _ = _; simp [h5]
    have h5i : (a5 == b5) = false := by simp [h5]
    go_enter Try.func48, Try.ntmps48
    go_wp2
    refine bodyPost_ret (v := .bool false) (by simp [results, Try.results48, go_sem]) rfl ⟨by rw [HN.out], HB.out⟩
  subst h5
  by_cases h6 : a6 = b6
  rotate_left
  · have HN : Hid (decide ((⟨a0, a1, a2, a3, a4, a5, a6, a7, a8, aes, ait⟩ : MC) = (⟨a0, a1, a2, a3, a4, a5, b6, b7, b8, bes, bit⟩ : MC)) = false) := by show _ = _; simp [h6]
    have h6i : (a6 == b6) = false := by simp [h6]
    go_enter Try.func48, Try.ntmps48
    go_wp2
    refine bodyPost_ret (v := .bool false) (by simp [results, Try.results48, go_sem]) rfl ⟨by rw [HN.out], HB.out⟩
  subst h6
  by_cases h7 : a7 = b7
  rotate_left
  · have HN : Hid (decide ((⟨a0, a1, a2, a3, a4, a5, a6, a7, a8, aes, ait⟩ : MC) = (⟨a0, a1, a2, a3, a4, a5, a6, b7, b8, bes, bit⟩ : MC)) = false) := by show _ = _; simp [h7]
    have h7i := strne h7
    go_enter Try.func48, Try.ntmps48
    go_wp2
    refine bodyPost_ret (v := .bool false) (by simp [results, Try.results48, go_sem]) rfl ⟨by rw [HN.out], HB.out⟩
  subst h7
  by_cases h8 : a8 = b8
  rotate_left
  · have HN : Hid (decide ((⟨a0, a1, a2, a3, a4, a5, a6, a7, a8, aes, ait⟩ : MC) = (⟨a0, a1, a2, a3, a4, a5, a6, a7, b8, bes, bit⟩ : MC)) = false) := by show _ = _; simp [h8]
    have h8i := strne h8
    go_enter Try.func48, Try.ntmps48
    go_wp2
    refine bodyPost_ret (v := .bool false) (by simp [results, Try.results48, go_sem]) rfl ⟨by rw [HN.out], HB.out⟩
  subst h8
  have HV : Hid (decide ((⟨a0, a1, a2, a3, a4, a5, a6, a7, a8, aes, ait⟩ : MC) = (⟨a0, a1, a2, a3, a4, a5, a6, a7, a8, bes, bit⟩ : MC)) = (decide (aes = bes) && decide (ait = bit))) := by
    show _ = _
    by_cases h1 : aes = bes <;> by_cases h2 : ait = bit <;> simp [h1, h2]
  go_enter Try.func48, Try.ntmps48
  go_wp2_with fail
  refine (same51 aes bes _ aeo beo _ _ aec bec HAE.out HBE.out).mono ?_
  rintro r w1 ⟨rfl, hb⟩
  have hal2 := HB.out
  have HB1 := Lib.hid (below_step hal2 hb)
  have HAI1 := Lib.hid (HAI.out.below hb); have HBI1 := Lib.hid (HBI.out.below hb)
  have x10 := cell_later x10 hb
  have y10 := cell_later y10 hb
  clear hb hal2 HB HAI HBI HAE HBE x0 x1 x2 x3 x4 x5 x6 x7 x8 x9 y0 y1 y2 y3 y4 y5 y6 y7 y8 y9
  by_cases he : aes = bes
  · rw [decide_eq_true he] at HV ⊢
    go_wp2_with fail
    refine (same52 ait bit _ aio bio _ _ aic bic HAI1.out HBI1.out).mono ?_
    rintro r w2 ⟨rfl, hb⟩
    have HB2 := Lib.hid (below_step HB1.out hb)
    clear hb HB1 HAI1 HBI1 x10 y10
    go_wp2
    refine bodyPost_ret (v := .bool (decide (ait = bit))) (by simp [results, Try.results48, go_sem]) rfl ⟨by rw [HV.out]; simp, HB2.out⟩
  · rw [decide_eq_false he] at HV ⊢
    clear he
    go_wp2
    refine bodyPost_ret (v := .bool false) (by simp [results, Try.results48, go_sem]) rfl ⟨by rw [HV.out]; simp, HB1.out⟩
end Go.Proofs.Ytmbakknpnilooaa
