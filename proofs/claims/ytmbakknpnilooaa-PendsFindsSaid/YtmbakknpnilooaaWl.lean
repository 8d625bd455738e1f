/-
  Walk: the chapter's example.
-/
import Derived.Test.YtmbakknpnilooaaWg
import Derived.Test.YtmbakknpnilooaaWh
import Derived.Test.YtmbakknpnilooaaWk
namespace Go.Proofs.Ytmbakknpnilooaa
open Go.RowKit Go.Proofs.Ytmbakknpnilooaa.Plan Go.Proofs.Ytmbakknpnilooaa.Eager
set_option maxHeartbeats 4000000
set_option maxRecDepth 20000
set_option linter.unusedVariables false
set_option linter.unusedSimpArgs false

def exA : Pd := ⟨1, 2, 0, 4, 0, 0, ⟨⟨#[97]⟩, 0, 0, 0, 0, ⟨#[]⟩⟩, mg0⟩
def exB : Pd := ⟨2, 0, 0, 5, 0, 7, ⟨⟨#[]⟩, 0, 0, 0, 0, ⟨#[]⟩⟩, mg0⟩
theorem ex_late : lateC 5 ([exA, exB].map Pd.c) = [exA.c] := rfl
theorem ex_rest : restC 5 ([exA, exB].map Pd.c) = [exB.c] := rfl
theorem mg0_good (w : World) : mg0.Good w := ⟨Rws.nil _ _, Rws.nil _ _⟩
theorem mg0_small : mg0.small := ⟨by decide, by decide⟩
theorem one_of {A : List Pd} {x : PC} (h : A.map Pd.c = [x]) : ∃ p, A = [p] ∧ p.c = x := List.map_eq_singleton_iff.1 h
theorem ex_has (p : Pd) (h : p.c = exA.c) : [p].any (hasD 2 ⟨#[97]⟩) = true := by
  have h1 : p.why = 2 := congrArg PC.why h
  have h2 : p.to.name = ⟨#[97]⟩ := congrArg (fun x => (PC.to x).name) h
  have h3 : hasD 2 ⟨#[97]⟩ p = true := by unfold hasD; rw [h1, h2, decide_eq_true rfl, decide_eq_true rfl]; rfl
  exact List.any_eq_true.2 ⟨p, by simp, h3⟩
theorem ex_place (p : Pd) (h : p.c = exB.c) : idxD (ridD 2) [p] = 0 := by
  have h1 : p.rid = 2 := congrArg PC.rid h
  exact idxD_at _ [p] 0 (by simp) (fun j _ h => by omega) (by simp [ridD, h1])
theorem ex_busy (p : Pd) (h : p.c = exB.c) : busyD [p] = [7] := by
  have h1 : p.sess = 7 := congrArg PC.sess h
  simp [busyD, h1]
theorem works7 (w : World) : Calls Try.prog 7 #[] w fun r w' => r = .returned (.bool true) ∧ Below w.heap.size w w' := by
  have hal : Below w.heap.size w (w.alloc (.cells (exA.cells ++ exB.cells).toArray 32)) := (Below.refl _ _).alloc (Nat.le_refl _) _
  have hX : Blk (w.alloc (.cells (exA.cells ++ exB.cells).toArray 32)) w.heap.size (exA.cells ++ exB.cells) := Blk.new' rfl
  have HR : Hid (RPd (w.alloc (.cells (exA.cells ++ exB.cells).toArray 32)) (some ⟨w.heap.size, 0, none⟩) 2 2 [exA, exB]) :=
    ⟨Rws.two hX, fun p hp => by
      simp only [List.mem_cons, List.not_mem_nil, or_false] at hp
      rcases hp with rfl | rfl <;> exact mg0_good _⟩
  have HB := Lib.hid hal
  clear hal hX
  go_enter Try.func7, Try.ntmps7
  go_wp2_with fail
  refine (late11 [exA, exB] 5 _ _ 2 2 HR.out (by simp) (by
    intro p hp
    simp only [List.mem_cons, List.not_mem_nil, or_false] at hp
    rcases hp with rfl | rfl <;> exact mg0_small)).mono ?_
  rintro r w1 ⟨oa, n, c, A, ob, m, d, B, rfl, hA, hB, hAc, hBc, hb⟩
  rw [ex_late] at hAc
  rw [ex_rest] at hBc
  obtain ⟨p, rfl, hp⟩ := one_of hAc
  obtain ⟨q, rfl, hq⟩ := one_of hBc
  obtain rfl : n = 1 := hA.rows.rows.len
  obtain rfl : m = 1 := hB.rows.rows.len
  obtain ⟨b1, p1, rfl, e1⟩ := hA.rows.rows.pd (i := 0) (by simp)
  obtain ⟨b2, p2, rfl, e2⟩ := hB.rows.rows.pd (i := 0) (by simp)
  have y1 : w1.cell? ⟨b1, p1, none⟩ = some (.int .i64 1) := by
    have h1 : p.rid = 1 := congrArg PC.rid hp
    have := e1.get 0 (by simp [Pd.cells])
    simpa [Pd.cells, h1] using this
  have y2 : w1.cell? ⟨b2, p2, none⟩ = some (.int .i64 2) := by
    have h1 : q.rid = 2 := congrArg PC.rid hq
    have := e2.get 0 (by simp [Pd.cells])
    simpa [Pd.cells, h1] using this
  have hl1 := e1.lt; have hl2 := e2.lt
  have H1 := has27 [p] 2 ⟨#[97]⟩ w1 _ 1 c hA.rows
  rw [ex_has p hp] at H1
  have H2 := fun W (h : Below w1.heap.size w1 W) => place20 [q] 2 W _ 1 d (hB.below h).rows
  rw [ex_place q hq] at H2
  have H3 := fun W (h : Below w1.heap.size w1 W) => busy18 [q] W _ 1 d (hB.below h).rows (by simp)
  rw [ex_busy q hq] at H3
  have HC1 := Lib.hid H1; have HC2 := Lib.hid H2; have HC3 := Lib.hid H3
  replace HB := Lib.hid (below_step HB.out hb)
  clear H1 H2 H3 hA hB hAc hBc hb e1 e2 hp hq HR
  go_wp2_with fail
  refine HC1.out.mono ?_
  rintro r w2 ⟨rfl, hb⟩
  have HBW := Lib.hid hb
  clear hb
  go_wp2_with fail
  refine (HC2.out w2 HBW.out).mono ?_
  rintro r w3 ⟨rfl, hb⟩
  replace HBW := Lib.hid (below_step HBW.out hb)
  clear hb
  go_wp2_with fail
  refine (HC3.out w3 HBW.out).mono ?_
  rintro r w4 ⟨o4, c4, rfl, hR4, hb⟩
  replace HB := Lib.hid (below_step HB.out (below_step HBW.out hb))
  clear hb hR4 HBW HC1 HC2 HC3
  go_wp2
  refine bodyPost_ret (v := .bool true) (by simp [results, Try.results7, go_sem]) rfl ⟨rfl, HB.out⟩
end Go.Proofs.Ytmbakknpnilooaa
