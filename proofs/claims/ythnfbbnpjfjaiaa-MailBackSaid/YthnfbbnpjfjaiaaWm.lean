/-
  Walk: the document's answer for a byte that is changed.
-/
import Derived.Test.YthnfbbnpjfjaiaaWl
namespace Go.Proofs.Ythnfbbnpjfjaiaa
open Go.RowKit
set_option maxHeartbeats 1000000
set_option maxRecDepth 20000
set_option linter.unusedVariables false
set_option linter.unusedSimpArgs false

theorem el23 : Elem Try.prog 23 5 1 1 := Elem.of (.int .u8 0) rfl (by kernel_rfl) rfl (by omega)
theorem flat_put (l : List Pk) (k : Nat) (p q : Pk) (hk : l[k]? = some q) (h1 : p.frm = q.frm) (h2 : p.to = q.to) : (l.flatMap Pk.cells).set (k * 3 + 2) (.slice p.oa p.n p.c) = (l.set k p).flatMap Pk.cells := by
  induction l generalizing k with
  | nil => simp at hk
  | cons a l ih =>
    cases k with
    | zero =>
      have : a = q := by simpa using hk
      subst this
      simp [Pk.cells, h1, h2]
    | succ k =>
      have := ih k (by simpa using hk)
      rw [List.set_cons_succ, List.flatMap_cons, List.flatMap_cons, ← this]
      rw [List.set_append_right _ _ (by simp [Pk.cells]; omega)]
      congr 2
      simp [Pk.cells]; omega

theorem refChange16 (l : List Pk) (i m : Int) (z : UInt8) (w : World) (oa : Option Addr) (n c : Nat) (h : Pks w oa n c l) (hl : l.length ≤ 1000) :
    Calls Try.prog 16 #[.slice oa n c, .int .i64 i, .int .i64 m, .int .u8 (z.toNat : Int)] w (ListOk w (changeD (l.map Pk.dat) i m z).1 (changeD (l.map Pk.dat) i m z).2) := by
  obtain rfl : n = l.length := h.rows.len
  obtain ⟨R, hR⟩ : ∃ R, changeD (l.map Pk.dat) i m z = R := ⟨_, rfl⟩
  rw [hR]
  have HS : Hid (R = if i < 0 ∨ (l.length : Int) ≤ i then (l.map Pk.dat, 2) else if m < 0 ∨ (((l.map Pk.dat).getD i.toNat noDat).2.2.length : Int) ≤ m then (l.map Pk.dat, 2) else ((l.map Pk.dat).set i.toNat (pokeD ((l.map Pk.dat).getD i.toNat noDat) m.toNat z), 0)) := by
    show _ = _
    rw [← hR]; unfold changeD; simp only [List.length_map]
  clear hR
  have H := Lib.hid h; have HL := Lib.hid hl; have HM0 := Lib.hid h.rows.cells; clear h hl
  have bad : Hid (R = (l.map Pk.dat, 2) → ListOk w R.1 R.2 (.returned (.tuple #[.slice oa l.length c, .int .i64 2])) w) := fun e => ⟨oa, _, c, l, by rw [e], H.out, by rw [e], Below.refl _ _⟩
  by_cases h0 : i < 0
  · have HR := Lib.hid (bad.out (by rw [HS.out, if_pos (.inl h0)]))
    clear HS bad
    go_enter Try.func16, Try.ntmps16
    go_wp2
    refine bodyPost_ret (v := .tuple #[.slice oa l.length c, .int .i64 2]) (by simp [results, Try.results16, go_sem]) rfl HR.out
  by_cases h1 : (l.length : Int) ≤ i
  · have HR := Lib.hid (bad.out (by rw [HS.out, if_pos (.inr h1)]))
    clear HS bad
    go_enter Try.func16, Try.ntmps16
    go_wp2
    refine bodyPost_ret (v := .tuple #[.slice oa l.length c, .int .i64 2]) (by simp [results, Try.results16, go_sem]) rfl HR.out
  have hin : ¬ (i < 0 ∨ (l.length : Int) ≤ i) := by omega
  obtain ⟨k, rfl⟩ : ∃ k : Nat, i = (k : Int) := ⟨i.toNat, by omega⟩
  have hlt : k < l.length := by omega
  have hkl : (k : Int) < (l.length : Int) := by omega
  have HDK : Hid ((l.map Pk.dat).getD k noDat = l[k].dat) := by show _ = _; simp [List.getD, hlt]
  obtain ⟨b1, p1, rfl, hb1, e10, e11, e12⟩ := H.out.rows.pk hlt
  have hok := H.out.ok _ (List.getElem_mem hlt)
  have hq1 : l[k]? = some l[k] := List.getElem?_eq_getElem hlt
  obtain ⟨q1, hq1'⟩ : ∃ q, l[k] = q := ⟨_, rfl⟩
  rw [hq1'] at e10 e11 e12 hok HDK hq1
  clear hq1'
  obtain ⟨f, t, po, pn, pc, pb⟩ := q1
  simp only at e10 e11 e12
  obtain rfl : pn = pb.length := hok.reads.len
  by_cases hm0 : m < 0
  · have HR := Lib.hid (bad.out (by rw [HS.out, if_neg hin, if_pos (.inl hm0)]))
    clear hin HS bad hok hlt e10 e11 e12 hq1
    go_enter Try.func16, Try.ntmps16
    go_wp2
    refine bodyPost_ret (v := .tuple #[.slice (some ⟨b1, p1, none⟩) l.length c, .int .i64 2]) (by simp [results, Try.results16, go_sem]) rfl HR.out
  by_cases hm1 : (pb.length : Int) ≤ m
  · have HR := Lib.hid (bad.out (by rw [HS.out, if_neg hin, if_pos (.inr (by rw [show ((k : Int)).toNat = k from rfl, HDK.out]; exact hm1))]))
    clear hin HS bad hok hlt e10 e11 hq1
    go_enter Try.func16, Try.ntmps16
    go_wp2
    refine bodyPost_ret (v := .tuple #[.slice (some ⟨b1, p1, none⟩) l.length c, .int .i64 2]) (by simp [results, Try.results16, go_sem]) rfl HR.out
  obtain ⟨a, rfl⟩ : ∃ a : Nat, m = (a : Int) := ⟨m.toNat, by omega⟩
  have hab : a < pb.length := by omega
  have hai : (a : Int) < (pb.length : Int) := by omega
  have HR : Hid (R = ((l.map Pk.dat).set k (pokeD (f, t, pb) a z), 0)) := by
    show _ = _
    rw [HS.out, if_neg hin, show ((k : Int)).toNat = k from rfl, HDK.out, if_neg (fun e => by
      rcases e with e | e
      · exact hm0 e
      · exact hm1 e)]; rfl
  have HVZ : Hid (By (pb[a] ^^^ z) = Value.int .u8 (bits .xor .u8 (pb[a].toNat : Int) (z.toNat : Int))) := by
    show _ = _
    rw [bits_xor_u8]; rfl
  have HPD : Hid (pokeD (f, t, pb) a z = (f, t, pb.set a (pb[a] ^^^ z))) := by show _ = _; simp [pokeD, List.getD, hab]
  have HOK := Lib.hid hok; have HQ := Lib.hid hq1
  have hE : Own (w.alloc (.cells ([] : List Value).toArray 25)) w.heap.size 25 3 (.slice (some ⟨w.heap.size, 0, none⟩) 0 0) 0 [] := Own.lit w [] 25 3 0 (by simp [maxLen]) rfl w.heap.size (Nat.le_refl _)
  have hbE : Below w.heap.size w (w.alloc (.cells ([] : List Value).toArray 25)) := (Below.refl _ _).alloc (Nat.le_refl _) _
  have HE := Lib.hid hE; have HBE := Lib.hid hbE
  clear hin HS bad hok e10 e11 hq1 hE hbE
  have HE12 := Lib.hid e12
  go_enter Try.func16, Try.ntmps16
  go_wp2_with (first | (refine stop_append rfl ?_))
  have hll := HL.out
  refine ⟨wpList_app el22 rfl (by rfl) (by rfl) HE.out (by rfl) (m := l.length) (flat3 l) (HM0.out.below HBE.out (Nat.le_refl _)) (Pk.oneCells l) (by simp [maxLen]; omega) (by omega) HBE.out.size ?_⟩
  intro va Wa hA hgA
  have hbA := HE.out.below hgA HBE.out (Nat.le_refl _) HBE.out.size
  simp only [Nat.zero_add, List.nil_append] at hA
  obtain ⟨ga, ca, rfl, hna, hca, hga, hBa⟩ := hA.blk (by omega)
  have d12 := cell_later HE12.out hbA
  have hb1A : b1 < Wa.heap.size := Nat.lt_of_lt_of_le hb1 hbA.size
  have hrd := HOK.out.reads.below hbA
  have hsm := HOK.out.small
  have HA := Lib.hid hBa; have HBA := Lib.hid hbA; have HRD := Lib.hid hrd; have HNA := Lib.hid hna; have HCA := Lib.hid hca; have HGA := Lib.hid hga; have HSM := Lib.hid hsm
  have hkc : (k : Int) < (l.length : Int) := hkl
  have hEb : Own (Wa.alloc (.cells ([] : List Value).toArray 5)) Wa.heap.size 5 1 (.slice (some ⟨Wa.heap.size, 0, none⟩) 0 0) 0 [] := Own.lit Wa [] 5 1 0 (by simp [maxLen]) rfl Wa.heap.size (Nat.le_refl _)
  have hbEb : Below Wa.heap.size Wa (Wa.alloc (.cells ([] : List Value).toArray 5)) := (Below.refl _ _).alloc (Nat.le_refl _) _
  have HEb := Lib.hid hEb; have HBEb := Lib.hid hbEb
  clear hA hgA hbA hBa hrd hna hca hga e12 hEb hbEb HE HBE hsm hll
  go_wp2_with (first | (refine stop_append rfl ?_))
  have hsm := HSM.out
  have hR16 : reachBytes ≤ 140737488351232 := by simp [reachBytes]
  refine ⟨wpList_app el23 rfl (by rfl) (by rfl) HEb.out (by rfl) (m := pb.length) (by simp) ((HRD.out.below HBEb.out).cells) (By_oneCell _) (by simp [maxLen]; omega) (by omega) HBEb.out.size ?_⟩
  intro vb Wb hB hgB
  have hbB := HEb.out.below hgB HBEb.out (Nat.le_refl _) HBEb.out.size
  simp only [Nat.zero_add, List.nil_append] at hB
  obtain ⟨gb, cb, rfl, hnb, hcb, hgb, hBb⟩ := hB.blk (by omega)
  have hBa := HA.out.later hbB
  have hne : ¬ gb = ga := fun e => by have := HA.out.lt; omega
  have hbb := below_step HBA.out hbB
  have cy := hBb.at' a (by simpa using hab)
  rw [List.getElem_map] at cy
  simp only [By] at cy
  have cz := hBb.froz
  have hBb2 := hBb.set a (by simpa using hab) (Value.int .u8 (bits .xor .u8 (pb[a].toNat : Int) (z.toNat : Int)))
  have hBa2 := hBa.setOther (a := ⟨gb, a, none⟩) hne (Value.int .u8 (bits .xor .u8 (pb[a].toNat : Int) (z.toNat : Int)))
  have hb2 := hbb.setCell (p := ⟨gb, a, none⟩) (by have := HBA.out.size; simp only; omega) (Value.int .u8 (bits .xor .u8 (pb[a].toNat : Int) (z.toNat : Int)))
  have hkf : k * 3 + 2 < (l.flatMap Pk.cells).length := by rw [flat3]; omega
  have dy := hBa2.at' (k * 3 + 2) hkf
  have dz := hBa2.froz
  obtain ⟨dv, hdv⟩ : ∃ dv, (l.flatMap Pk.cells)[k * 3 + 2] = dv := ⟨_, rfl⟩
  rw [hdv] at dy
  have hBb3 := hBb2.setOther (a := ⟨ga, k * 3 + 2, none⟩) (fun e => hne e.symm) (Value.slice (some ⟨gb, 0, none⟩) pb.length cb)
  have hBa3 := hBa2.set (k * 3 + 2) hkf (Value.slice (some ⟨gb, 0, none⟩) pb.length cb)
  have hb3 := hb2.setCell (p := ⟨ga, k * 3 + 2, none⟩) HGA.out (Value.slice (some ⟨gb, 0, none⟩) pb.length cb)
  rw [flat_put l k ⟨f, t, some ⟨gb, 0, none⟩, pb.length, cb, pb.set a (pb[a] ^^^ z)⟩ _ HQ.out rfl rfl] at hBa3
  have hfin : Pks (((Wb.setCell ⟨gb, a, none⟩ (Value.int .u8 (bits .xor .u8 (pb[a].toNat : Int) (z.toNat : Int)))).setCell ⟨ga, k * 3 + 2, none⟩ (Value.slice (some ⟨gb, 0, none⟩) pb.length cb))) (some ⟨ga, 0, none⟩) l.length ca (l.set k ⟨f, t, some ⟨gb, 0, none⟩, pb.length, cb, pb.set a (pb[a] ^^^ z)⟩) := by
    refine ⟨⟨by simp, hBa3.cells⟩, HNA.out, HCA.out, fun q hq => ?_⟩
    obtain ⟨j, hj, rfl⟩ := List.getElem_of_mem hq
    rw [List.length_set] at hj
    by_cases e : k = j
    · subst e
      rw [List.getElem_set_self]
      exact ⟨⟨by simp, (hBb3.cast (by rw [List.map_set, ← HVZ.out])).cells⟩, hnb, hcb, hsm⟩
    · rw [List.getElem_set_ne e]
      exact (H.out.ok _ (List.getElem_mem hj)).below hb3
  have HF := Lib.hid hfin; have HB3 := Lib.hid hb3
  clear hfin hb3 hBa3 hBb3 hdv hBa2 hBb2 hb2 hBa hBb hbb hbB hB hgB HEb HBEb HVZ hR16 hsm
  go_wp2
  refine bodyPost_ret (v := .tuple #[.slice (some ⟨ga, 0, none⟩) l.length ca, .int .i64 0]) (by simp [results, Try.results16, go_sem]) rfl ⟨_, _, ca, _, by rw [HR.out], HF.out, ?_, HB3.out⟩
  rw [HR.out, List.map_set, HPD.out]
  rfl
end Go.Proofs.Ythnfbbnpjfjaiaa
