/-
  Walk: slices.Delete of one packet.
-/
import Derived.Test.YthnfbbnpjfjaiaaWd
import Derived.Test.YthnfbbnpjfjaiaaDel
namespace Go.Proofs.Ythnfbbnpjfjaiaa
open Go.RowKit
set_option maxHeartbeats 1000000
set_option maxRecDepth 20000
set_option linter.unusedVariables false
set_option linter.unusedSimpArgs false

theorem delete21 (w : World) (g n cap i j : Nat) (cs : List Value) (hB : Blk w g cs) (hl : cs.length = n * 3) (hn : n ≤ cap) (hc : cap ≤ maxLen) (hi : i < n) (hj : j = i + 1) (h1 : ∀ u ∈ cs, u.oneCell' = true) :
    Calls Try.prog 21 #[.slice (some ⟨g, 0, none⟩) n cap, .int .i64 i, .int .i64 j] w fun r w' => r = .returned (.slice (some ⟨g, 0, none⟩) (n - 1) cap) ∧ (∃ zs, Blk w' g (cs.take (i * 3) ++ (cs.drop (j * 3) ++ zs))) ∧ w.grownBy w' (some g) := by
  have mixed : Try.prog.follows Departure.mixedOrders = true := by kernel_rfl
  have hm : cap ≤ 9223372036854775807 := by simpa [maxLen] using hc
  have hic : i ≤ cap := by omega
  have hjc : j ≤ cap := by omega
  have hjn : j ≤ n := by omega
  have hne : i ≠ j := by omega
  have hlt : i < j := by omega
  obtain ⟨news, hnews⟩ : ∃ news, news = cs.drop (j * 3) := ⟨_, rfl⟩
  have hlen : news.length = (n - j) * 3 := by rw [hnews, List.length_drop, hl]; omega
  obtain ⟨A, hA, hsrc⟩ : ∃ A : Addr, (if cap = j then some (⟨g, 0, none⟩ : Addr) else some ⟨g, j * 3, none⟩) = some A ∧ Hid (∀ t u, news[t]? = some u → w.drew.cell? (A.add t) = some u) := by
    by_cases h : cap = j
    · refine ⟨⟨g, 0, none⟩, by simp [h], fun t u hu => ?_⟩
      have h0 : news.length = 0 := by rw [hlen]; omega
      rw [List.length_eq_zero_iff.1 h0] at hu
      simp at hu
    · refine ⟨⟨g, j * 3, none⟩, by simp [h], fun t u hu => ?_⟩
      have ht : t < news.length := (List.getElem?_eq_some_iff.1 hu).1
      rw [hnews, List.getElem?_drop] at hu
      rw [Addr.add_lit]
      exact (hB.drew.cell (j * 3 + t) (by omega)).trans hu
  have s1 : Hid (news.length = (n - j) * 3) := hlen
  have s2 : Hid (∀ u ∈ news, u.oneCell' = true) := fun u hu => h1 u (by rw [hnews] at hu; exact List.mem_of_mem_drop hu)
  have s3 : Hid (∀ t, t < news.length → (w.drew.cell? ⟨g, 0 + i * 3 + t, none⟩).isSome = true ∧ w.drew.frozen? ⟨g, 0 + i * 3 + t, none⟩ = false) := by
    intro t ht
    rw [hlen] at ht
    rw [Nat.zero_add]
    exact ⟨by rw [hB.drew.at' (i * 3 + t) (by omega)]; rfl, hB.drew.froz _⟩
  obtain ⟨W1, hW1⟩ : ∃ W1, W1 = w.drew.setCells g (0 + i * 3) news := ⟨_, rfl⟩
  have hB1 : Blk W1 g (cs.take (i * 3) ++ news ++ cs.drop (i * 3 + news.length)) := by
    rw [hW1, Nat.zero_add]; exact hB.drew.setRange (by omega)
  have hl1 : (cs.take (i * 3) ++ news ++ cs.drop (i * 3 + news.length)).length = n * 3 := by simp; omega
  have hg1 : w.grownBy W1 (some g) := by
    rw [hW1]
    have h := setCells_grown g news (0 + i * 3) w.drew
    exact ⟨h.os, h.tape, h.output, h.size, h.block⟩
  obtain ⟨vs, hvl, hcl⟩ := run_clear_blk (P := Try.prog) (w := W1) 22 25 (z := .agg #[.string ⟨#[]⟩, .string ⟨#[]⟩, .slice none 0 0]) rfl (fun w => by kernel_rfl) (by simp [Value.cells, Value.oneCell']) hB1 ((i + (n - j)) * 3) 3 (n - (i + (n - j))) (cap - (i + (n - j))) rfl (by omega) (by omega) (by rw [hl1]; omega)
  have hB2 := hB1.setRange (vs := vs) (o := (i + (n - j)) * 3) (by rw [hl1, hvl]; omega)
  have hg2 := setCells_grown g vs ((i + (n - j)) * 3) W1
  have fin : Hid ((∃ zs, Blk (W1.setCells g ((i + (n - j)) * 3) vs) g (cs.take (i * 3) ++ (news ++ zs))) ∧ w.grownBy (W1.setCells g ((i + (n - j)) * 3) vs) (some g)) := by
    refine ⟨⟨vs, ?_⟩, ?_⟩
    · refine hB2.cast ?_
      have x1 : (cs.take (i * 3) ++ news ++ cs.drop (i * 3 + news.length)).take ((i + (n - j)) * 3) = cs.take (i * 3) ++ news := List.take_left' (by simp; omega)
      have x2 : (cs.take (i * 3) ++ news ++ cs.drop (i * 3 + news.length)).drop ((i + (n - j)) * 3 + vs.length) = [] := List.drop_of_length_le (by rw [hl1, hvl]; omega)
      rw [x1, x2, List.append_nil, List.append_assoc]
    · exact grown_trans hg1 hg2
  obtain ⟨W2, hW2⟩ : ∃ W2, W1.setCells g ((i + (n - j)) * 3) vs = W2 := ⟨_, rfl⟩
  rw [hW2] at fin hcl
  rw [hnews] at fin
  have hW : Hid (W1 = w.drew.setCells g (0 + i * 3) news) := hW1
  have e0 : i + (n - j) = n - 1 := by omega
  have E0 := Lib.hid e0
  clear hB hB1 hg1 hg2 hB2 hl1 hW1 hW2 hnews hlen hl h1 hvl e0 hj
  go_enter Try.func21, Try.ntmps21
  go_wp2_with fail
  go_region_law_o (refine step_append_room rfl (.tmp 22) (.tmp 25) 22 rfl 25 _ 3 rfl rfl rfl g 0 i cap (by simp [Act.eval, Act.put]) A (n - j) (cap - j) news (by simp [Act.eval, Act.put]) s1.out hsrc.out s2.out (by omega) s3.out ?_; rw [← hW.out])
  go_wp2
  refine bodyPost_ret (v := .slice (some ⟨g, 0, none⟩) (i + (n - j)) cap) (by simp [results, Try.results21, go_sem]) rfl ⟨by rw [E0.out], fin.out.1, fin.out.2⟩
end Go.Proofs.Ythnfbbnpjfjaiaa
