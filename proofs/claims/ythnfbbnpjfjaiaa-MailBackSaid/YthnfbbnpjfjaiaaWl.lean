/-
  Walk: a byte of a packet that is changed.
-/
import Derived.Test.YthnfbbnpjfjaiaaWk
namespace Go.Proofs.Ythnfbbnpjfjaiaa
open Go.RowKit Go.Proofs.Ythnfbbnpjfjaiaa.Plan Go.Proofs.Ythnfbbnpjfjaiaa.Eager
set_option maxHeartbeats 1000000
set_option maxRecDepth 20000
set_option linter.unusedVariables false
set_option linter.unusedSimpArgs false

def pokeD (q : Dat) (m : Nat) (x : UInt8) : Dat := (q.1, q.2.1, q.2.2.set m (q.2.2.getD m 0 ^^^ x))
def changeD (D : List Dat) (i m : Int) (x : UInt8) : List Dat × Int :=
  if i < 0 ∨ (D.length : Int) ≤ i then (D, 2) else if m < 0 ∨ ((D.getD i.toNat noDat).2.2.length : Int) ≤ m then (D, 2) else (D.set i.toNat (pokeD (D.getD i.toNat noDat) m.toNat x), 0)

theorem flat_set (l : List Pk) (k : Nat) (p : Pk) (h : ∀ q, l[k]? = some q → p.cells = q.cells) : (l.set k p).flatMap Pk.cells = l.flatMap Pk.cells := by
  induction l generalizing k with
  | nil => rfl
  | cons a l ih =>
    cases k with
    | zero => simp [h a (by simp)]
    | succ k => simp [ih k (fun q hq => h q (by simpa using hq))]

theorem OwnPks.poke {w : World} {base : Nat} {v : Value} {l : List Pk} (h : OwnPks w base v l) {k m x : Nat} {p : Pk} {z : UInt8} (hk : l[k]? = some p) (hx : p.oa = some ⟨x, 0, none⟩) (hm : m < p.b.length) :
    ∃ oa c, v = .slice oa l.length c ∧ Pks (w.setCell ⟨x, m, none⟩ (By z)) oa l.length c (l.set k ⟨p.frm, p.to, p.oa, p.n, p.c, p.b.set m z⟩) ∧ base ≤ x := by
  have hkl : k < l.length := (List.getElem?_eq_some_iff.1 hk).1
  have hkp : l[k] = p := (List.getElem?_eq_some_iff.1 hk).2
  obtain ⟨x', e1, hbx, hB, hne⟩ := h.blk p (by rw [← hkp]; exact List.getElem_mem hkl)
  obtain rfl : x = x' := by rw [hx] at e1; simpa using e1
  have hO := h.own.setOther (a := ⟨x, m, none⟩) hne (By z)
  obtain ⟨oa, c, rfl, h1, h2, h3, -⟩ := hO.cells
  refine ⟨oa, c, rfl, ⟨⟨by simp, by rw [flat_set l k _ (fun q hq => by rw [hk] at hq; cases hq; rfl)]; exact h3⟩, h1, h2, fun q hq => ?_⟩, hbx⟩
  obtain ⟨j, hj, rfl⟩ := List.getElem_of_mem hq
  rw [List.length_set] at hj
  by_cases e : k = j
  · subst e
    rw [List.getElem_set_self]
    obtain ⟨a, b, c', d⟩ := h.len p (by rw [← hkp]; exact List.getElem_mem hkl)
    have hB2 := hB.set m (by simpa using hm) (By z)
    exact ⟨⟨by simp [a], by
      show Cells _ p.oa _
      rw [hx]
      exact (hB2.cast (by rw [List.map_set])).cells⟩, b, c', d⟩
  · rw [List.getElem_set_ne e]
    obtain ⟨y, f1, -, f3, -⟩ := h.blk l[j] (List.getElem_mem hj)
    obtain ⟨a, b, c', d⟩ := h.len l[j] (List.getElem_mem hj)
    have hap : l[j].oa ≠ p.oa := by
      rcases Nat.lt_or_gt_of_ne e with h' | h'
      · have := List.pairwise_iff_getElem.1 h.apart k j hkl hj h'
        rw [hkp] at this; exact fun e => this e.symm
      · have := List.pairwise_iff_getElem.1 h.apart j k hj hkl h'
        rw [hkp] at this; exact this
    have hxy : x ≠ y := fun e => hap (by rw [f1, hx, e])
    exact ⟨⟨a, by rw [f1]; exact (f3.setOther (a := ⟨x, m, none⟩) hxy _).cells⟩, b, c', d⟩

theorem change10 (l : List Pk) (i m : Int) (z : UInt8) (w : World) (oa : Option Addr) (n c : Nat) (h : Pks w oa n c l) (hl : l.length ≤ 1000) :
    Calls Try.prog 10 #[.slice oa n c, .int .i64 i, .int .i64 m, .int .u8 (z.toNat : Int)] w (ListOk w (changeD (l.map Pk.dat) i m z).1 (changeD (l.map Pk.dat) i m z).2) := by
  obtain rfl : n = l.length := h.rows.len
  obtain ⟨R, hR⟩ : ∃ R, changeD (l.map Pk.dat) i m z = R := ⟨_, rfl⟩
  rw [hR]
  have HS : Hid (R = if i < 0 ∨ (l.length : Int) ≤ i then (l.map Pk.dat, 2) else if m < 0 ∨ (((l.map Pk.dat).getD i.toNat noDat).2.2.length : Int) ≤ m then (l.map Pk.dat, 2) else ((l.map Pk.dat).set i.toNat (pokeD ((l.map Pk.dat).getD i.toNat noDat) m.toNat z), 0)) := by
    show _ = _
    rw [← hR]; unfold changeD; simp only [List.length_map]
  clear hR
  have H := Lib.hid h; have HL := Lib.hid hl; clear h hl
  go_enter Try.func10, Try.ntmps10
  go_wp2_with fail
  refine (copy11 l w oa _ c H.out (by have := HL.out; omega)).mono ?_
  rintro r w1 ⟨v, l', rfl, hO, hD, hb1⟩
  have hll : l'.length = l.length := by have := congrArg List.length hD; simpa using this
  have HD := Lib.hid hD; have HO := Lib.hid hO; have HB := Lib.hid hb1; have HLL := Lib.hid hll
  clear hO hD hb1 hll
  by_cases hin : i < 0 ∨ (l.length : Int) ≤ i
  · have HR : Hid (R = (l.map Pk.dat, 2)) := by show _ = _; rw [HS.out, if_pos hin]
    have HT : Hid ((decide (0 ≤ i) && decide (i < (l.length : Int))) = false) := by
      show _ = _
      rw [Bool.and_eq_false_iff]
      rcases hin with h | h
      · exact .inl (decide_eq_false (by omega))
      · exact .inr (decide_eq_false (by omega))
    clear hin HS
    go_wp2_with fail
    refine (place20 w1 oa _ c i).mono ?_
    rintro r w' ⟨rfl, hw'⟩
    rw [hw', HT.out]; clear hw' w'
    obtain ⟨o1, k1, rfl, hpk⟩ := HO.out.pks
    have HPK := Lib.hid hpk; clear hpk
    go_wp2
    refine bodyPost_ret (v := .tuple #[.slice o1 l'.length k1, .int .i64 2]) (by simp [results, Try.results10, go_sem]) rfl ⟨o1, _, k1, l', by rw [HR.out], HPK.out, by rw [HR.out]; exact HD.out, HB.out⟩
  · have HT : Hid ((decide (0 ≤ i) && decide (i < (l.length : Int))) = true) := by
      show _ = _
      rw [Bool.and_eq_true]
      exact ⟨decide_eq_true (by omega), decide_eq_true (by omega)⟩
    obtain ⟨k, rfl⟩ : ∃ k : Nat, i = (k : Int) := ⟨i.toNat, by omega⟩
    have hlt : k < l.length := by omega
    have hkl : (k : Int) < (l.length : Int) := by omega
    have HDK : Hid ((l.map Pk.dat).getD k noDat = l[k].dat) := by show _ = _; simp [List.getD, hlt]
    obtain ⟨b1, p1, rfl, hb1, e10, e11, e12⟩ := (H.out.rows.below HB.out).pk hlt
    have hok := (H.out.ok _ (List.getElem_mem hlt)).below HB.out
    obtain ⟨q1, hq1'⟩ : ∃ q, l[k] = q := ⟨_, rfl⟩
    rw [hq1'] at e10 e11 e12 hok HDK
    clear hq1'
    obtain ⟨f, t, po, pn, pc, pb⟩ := q1
    simp only at e10 e11 e12
    obtain rfl : pn = pb.length := hok.reads.len
    by_cases hm0 : m < 0
    · have HR : Hid (R = (l.map Pk.dat, 2)) := by show _ = _; rw [HS.out, if_neg hin, if_pos (.inl hm0)]
      clear hin HS hok hlt e10 e11 e12
      go_wp2_with fail
      refine (place20 w1 _ _ c (k : Int)).mono ?_
      rintro r w' ⟨rfl, hw'⟩
      rw [hw', HT.out]; clear hw' w'
      obtain ⟨o1, k1, rfl, hpk⟩ := HO.out.pks
      have HPK := Lib.hid hpk; clear hpk
      go_wp2
      refine bodyPost_ret (v := .tuple #[.slice o1 l'.length k1, .int .i64 2]) (by simp [results, Try.results10, go_sem]) rfl ⟨o1, _, k1, l', by rw [HR.out], HPK.out, by rw [HR.out]; exact HD.out, HB.out⟩
    · by_cases hm1 : (pb.length : Int) ≤ m
      · have HR : Hid (R = (l.map Pk.dat, 2)) := by show _ = _; rw [HS.out, if_neg hin, if_pos (.inr (by rw [show ((k : Int)).toNat = k from rfl, HDK.out]; exact hm1))]
        clear hin HS hok hlt e10 e11
        go_wp2_with fail
        refine (place20 w1 _ _ c (k : Int)).mono ?_
        rintro r w' ⟨rfl, hw'⟩
        rw [hw', HT.out]; clear hw' w'
        obtain ⟨o1, k1, rfl, hpk⟩ := HO.out.pks
        have HPK := Lib.hid hpk; clear hpk
        go_wp2
        refine bodyPost_ret (v := .tuple #[.slice o1 l'.length k1, .int .i64 2]) (by simp [results, Try.results10, go_sem]) rfl ⟨o1, _, k1, l', by rw [HR.out], HPK.out, by rw [HR.out]; exact HD.out, HB.out⟩
      · obtain ⟨a, rfl⟩ : ∃ a : Nat, m = (a : Int) := ⟨m.toNat, by omega⟩
        have hab : a < pb.length := by omega
        have hai : (a : Int) < (pb.length : Int) := by omega
        have HR : Hid (R = ((l.map Pk.dat).set k (pokeD (f, t, pb) a z), 0)) := by
          show _ = _
          rw [HS.out, if_neg hin, show ((k : Int)).toNat = k from rfl, HDK.out, if_neg (fun e => by
            rcases e with e | e
            · exact hm0 e
            · exact hm1 e)]; rfl
        have hkl' : k < l'.length := by rw [HLL.out]; exact hlt
        have hki' : (k : Int) < (l'.length : Int) := by omega
        have hdk : l'[k].dat = (f, t, pb) := by
          have h1 : (l'.map Pk.dat)[k]? = (l.map Pk.dat)[k]? := by rw [HD.out]
          have h2 := HDK.out
          simp [List.getD, hlt, hkl'] at h1 h2
          rw [h1, h2]; rfl
        obtain ⟨o1, k1, hv, hpk⟩ := HO.out.pks
        subst hv
        obtain ⟨b2, p2, rfl, hb2, g10, g11, g12⟩ := hpk.rows.pk hkl'
        have hq2 : l'[k]? = some l'[k] := List.getElem?_eq_getElem hkl'
        obtain ⟨x, hx, hbx, hBx, hnx⟩ := HO.out.blk l'[k] (List.getElem_mem hkl')
        obtain ⟨q2, hq2'⟩ : ∃ q, l'[k] = q := ⟨_, rfl⟩
        have hlen2 := (HO.out.len l'[k] (List.getElem_mem hkl')).1
        rw [hq2'] at g10 g11 g12 hq2 hx hBx hdk hlen2
        clear hq2'
        obtain ⟨f2, t2, po2, pn2, pc2, pb2⟩ := q2
        simp only [Pk.dat, Prod.mk.injEq] at g10 g11 g12 hx hdk hlen2
        obtain ⟨rfl, rfl, rfl⟩ := hdk
        subst hx
        subst hlen2
        simp only at hBx
        have HPOKE := Lib.hid (HO.out.poke (z := pb2[a] ^^^ z) (m := a) hq2 rfl hab)
        have HBX := Lib.hid hBx; have HBXX := Lib.hid hbx
        have HVZ : Hid (By (pb2[a] ^^^ z) = Value.int .u8 (bits .xor .u8 (pb2[a].toNat : Int) (z.toNat : Int))) := by
          show _ = _
          rw [bits_xor_u8]; rfl
        have HPD : Hid (pokeD (f2, t2, pb2) a z = (f2, t2, pb2.set a (pb2[a] ^^^ z))) := by show _ = _; simp [pokeD, List.getD, hab]
        clear hin HS hok hlt e10 e11 g10 g11 hq2 hpk hBx hbx hnx
        go_wp2_with fail
        refine (place20 w1 _ _ c (k : Int)).mono ?_
        rintro r w' ⟨rfl, hw'⟩
        rw [hw', HT.out]; clear hw' w'
        have cy := HBX.out.at' a (by simpa using hab)
        have cz := HBX.out.froz
        rw [List.getElem_map] at cy
        simp only [By] at cy
        obtain ⟨oa5, c5, e5, hp5, -⟩ := HPOKE.out
        obtain ⟨rfl, -, rfl⟩ : some (⟨b2, p2, none⟩ : Addr) = oa5 ∧ True ∧ k1 = c5 := by simpa using e5
        rw [HVZ.out] at hp5
        have hb5 := HB.out.setCell (p := ⟨x, a, none⟩) HBXX.out (Value.int .u8 (bits .xor .u8 (pb2[a].toNat : Int) (z.toNat : Int)))
        have HP5 := Lib.hid hp5; have HB5 := Lib.hid hb5
        clear e5 hp5 hb5 HPOKE HVZ
        go_wp2
        refine bodyPost_ret (v := .tuple #[.slice (some ⟨b2, p2, none⟩) l'.length k1, .int .i64 0]) (by simp [results, Try.results10, go_sem]) rfl ⟨_, _, k1, _, by rw [HR.out], HP5.out, ?_, HB5.out⟩
        rw [HR.out, List.map_set, HPD.out, HD.out]
        rfl
end Go.Proofs.Ythnfbbnpjfjaiaa
