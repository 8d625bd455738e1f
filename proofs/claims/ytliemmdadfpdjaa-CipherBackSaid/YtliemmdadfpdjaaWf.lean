/-
  Walk: a block of 64 bytes.
-/
import Derived.Test.YtliemmdadfpdjaaWe
namespace Go.Proofs.Ytliemmdadfpdjaa
open Go.RowKit
set_option maxHeartbeats 1000000
set_option linter.unusedVariables false
set_option linter.unusedSimpArgs false

def bIter (l : List UInt32) : Nat → List UInt32
  | 0 => l
  | k + 1 => roundM (bIter l k)
theorem bIter_length (l : List UInt32) : ∀ k, (bIter l k).length = l.length
  | 0 => rfl
  | k + 1 => (roundM_length _).trans (bIter_length l k)
def byteAt (x : UInt32) (j : Nat) : UInt8 := (x >>> UInt32.ofNat (8 * j)).toUInt8
def outWord (m begin' : List UInt32) (i : Nat) : UInt32 := m.getD i 0 + begin'.getD i 0
def outByte (m begin' : List UInt32) (t : Nat) : UInt8 := byteAt (outWord m begin' (t / 4)) (t % 4)
/-- a block of bytes -/
def blockM (l : List UInt32) : List UInt8 := (List.range 64).map (outByte (bIter l 10) l)
def z64 : List Value := List.replicate 64 (.int .u8 0)
theorem byte_val (x : UInt32) (j : Nat) (h : 8 * j < 32) : Value.int .u8 ((x.toNat : Int) / 2 ^ (8 * j) % 256) = By (byteAt x j) := by
  rw [shr_u32 x h]
  unfold By byteAt
  rw [UInt32.toNat_toUInt8]; rfl
theorem byte0 (x : UInt32) : Value.int .u8 ((x.toNat : Int) % (256 : Int)) = By (byteAt x 0) := by
  have := byte_val x 0 (by omega)
  rw [← this]; simp
theorem byte1 (x : UInt32) : Value.int .u8 ((x.toNat : Int) / (256 : Int) % (256 : Int)) = By (byteAt x 1) := byte_val x 1 (by omega)
theorem byte2 (x : UInt32) : Value.int .u8 ((x.toNat : Int) / (65536 : Int) % (256 : Int)) = By (byteAt x 2) := byte_val x 2 (by omega)
theorem byte3 (x : UInt32) : Value.int .u8 ((x.toNat : Int) / (16777216 : Int) % (256 : Int)) = By (byteAt x 3) := byte_val x 3 (by omega)

theorem outByte_at (m l : List UInt32) (k j : Nat) (h : j < 4) : outByte m l (4 * k + j) = byteAt (outWord m l k) j := by
  unfold outByte
  rw [show (4 * k + j) / 4 = k by omega, show (4 * k + j) % 4 = j by omega]

theorem row46' {cs : List Value} (h : cs.length = 64) : RowTy Try.prog 46 cs.length := by rw [h]; exact row46

theorem block17 (l : List UInt32) (hl : l.length = 16) (w : World) : Calls Try.prog 17 #[W16 l] w fun r w' => r = .returned (.agg ((blockM l).map By).toArray) ∧ Below w.heap.size w w' := by
  have HM : Hid (blockM l = (List.range 64).map (outByte (bIter l 10) l)) := rfl
  have hrow0 : RowTy Try.prog 48 (l.map U32).length := row48' (by simp [hl])
  have HL := Lib.hid hl; clear hl
  unfold W16
  go_enter Try.func17, Try.ntmps17
  have hA0 : Blk ((w.alloc (.cells (l.map U32).toArray 48)).alloc (.cells z64.toArray 46)) w.heap.size (l.map U32) := Blk.first w _ _ _
  go_wp2_with (first | (refine stop_load rfl ?_))
  refine ⟨wpList_load_blk rfl rfl hA0 rfl hrow0 ?_⟩
  clear hrow0 hA0
  go_wp2_with (first | (refine stop_store rfl ?_))
  have hC0 : Blk (((w.alloc (.cells (l.map U32).toArray 48)).alloc (.cells z64.toArray 46)).alloc (.cells z16w.toArray 48)) (w.heap.size + 1 + 1) z16w := Blk.new' (by simp)
  have hA0 : Blk (((w.alloc (.cells (l.map U32).toArray 48)).alloc (.cells z64.toArray 46)).alloc (.cells z16w.toArray 48)) w.heap.size (l.map U32) := (Blk.first w _ _ _).alloc _
  have hR0 : Blk (((w.alloc (.cells (l.map U32).toArray 48)).alloc (.cells z64.toArray 46)).alloc (.cells z16w.toArray 48)) (w.heap.size + 1) z64 := (Blk.second w _ _ _).alloc _
  have hB0 : Below w.heap.size w (((w.alloc (.cells (l.map U32).toArray 48)).alloc (.cells z64.toArray 46)).alloc (.cells z16w.toArray 48)) := by (with_reducible try refine Lib.hid ?_); (repeat (with_reducible first | assumption | exact Below.refl _ _ | apply Below.drew | apply Below.drewN' | apply Below.setCell | apply Below.alloc)) <;> (try simp [length_fillTo, length_turnTo]) <;> (try omega)
  refine ⟨wpList_store_blk rfl rfl hC0 (by rfl) (by rfl) (row48' (by simp [HL.out])) (by simp [HL.out, z16w]) (oneU32 _) ?_⟩
  intro W1 hC1 hg1
  have hA1 := hA0.grown hg1 (by simp; omega); have hR1 := hR0.grown hg1 (by simp)
  have hB1 := Below.grownB hB0 hg1 (by omega) hB0.size
  have HA1 := Lib.hid hA1; have HR1 := Lib.hid hR1; have HC1 := Lib.hid hC1; have HB1 := Lib.hid hB1
  clear hC0 hA0 hR0 hB0 hA1 hR1 hC1 hB1 hg1
  go_wp2
  go_loopw [8] (fun i wr => ∃ k : Nat, k ≤ 10 ∧ i = .int .i64 k ∧ Hid (Blk wr w.heap.size (l.map U32)) ∧ Hid (Blk wr (w.heap.size + 1) z64) ∧ Hid (Blk wr (w.heap.size + 1 + 1) ((bIter l k).map U32)) ∧ Hid (Below w.heap.size w wr)) (fun i _ => 10 - (intOf i).toNat)
  case atStart => exact ⟨0, by omega, rfl, HA1, HR1, HC1, HB1⟩
  case round =>
    clear HA1 HR1 HC1 HB1
    obtain ⟨k, hk, rfl, hA, hR, hC, hbel⟩ := hrel
    by_cases hlt : k < 10
    · have hk5 : (k : Int) < 10 := by omega
      have HS : Hid (bIter l (k + 1) = roundM (bIter l k)) := rfl
      have hlen : (bIter l k).length = 16 := (bIter_length l k).trans HL.out
      generalize hcur : bIter l k = cur at *
      have HCUR := Lib.hid hcur; have HLEN := Lib.hid hlen; clear hcur hlen
      have hC' := hC.out
      have hrow : RowTy Try.prog 48 (cur.map U32).length := row48' (by simp [HLEN.out])
      go_wp2_with (first | (refine wpList_load_blk rfl rfl hC' rfl hrow ?_) | (refine stop_store rfl ?_))
      refine (round20 cur HLEN.out wr).mono ?_
      rintro r w1 ⟨rfl, hb1⟩
      have hC1 := hC'.later hb1; have hR1 := hR.out.later hb1; have hA1 := hA.out.later hb1; have hb1' := below_step hbel.out hb1
      have hl1 : (roundM cur).length = 16 := (roundM_length _).trans HLEN.out
      have hrow1 : RowTy Try.prog 48 ((roundM cur).map U32).length := row48' (by simp [hl1])
      have HL1 := Lib.hid hl1; clear hl1 hb1 hC' hA hR hC hbel
      unfold W16
      go_wp2_with (first | (refine stop_store rfl ?_))
      refine ⟨wpList_store_blk rfl rfl hC1 (by rfl) (by rfl) hrow1 (by simp [HL1.out, HLEN.out]) (oneU32 _) ?_⟩
      intro W2 hC2 hg2
      have hR2 := hR1.grown hg2 (by simp); have hA2 := hA1.grown hg2 (by simp; omega)
      have hb2 := Below.grownB hb1' hg2 (by omega) hb1'.size
      have HA2 := Lib.hid hA2; have HR2 := Lib.hid hR2; have HC2 := Lib.hid hC2; have HB2 := Lib.hid hb2
      clear hA1 hR1 hC1 hb1' hg2 hrow hrow1 hA2 hR2 hC2 hb2
      go_wp2
      go_roundw
      case measure => (simp [intOf]) <;> omega
      case rel =>
        have hh := HS.out
        refine ⟨k + 1, by omega, by go_num, HA2, HR2, Lib.hid (Blk.cast HC2.out ?_), HB2⟩
        rw [hh]
    · obtain rfl : k = 10 := by omega
      have hlm : (bIter l 10).length = 16 := (bIter_length l 10).trans HL.out
      generalize bIter l 10 = m at *
      have HLM := Lib.hid hlm; clear hlm
      go_wp2
      obtain ⟨g, hg⟩ : ∃ g, wr.heap.size = g := ⟨_, rfl⟩
      have hlts : w.heap.size + 1 + 1 < g := by rw [← hg]; exact hC.out.lt
      have hA0 := hA.out; have hR0 := hR.out; have hC0 := hC.out; have hb0 := hbel.out
      clear hA hR hC hbel
      go_loopw [13] (fun i wr' => ∃ k : Nat, k ≤ 16 ∧ i = .int .i64 k ∧ Hid (Blk wr' w.heap.size (l.map U32)) ∧ Hid (Blk wr' (w.heap.size + 1) z64) ∧ Hid (Blk wr' (w.heap.size + 1 + 1) (m.map U32)) ∧ Hid (Blk wr' wr.heap.size (fillTo (fun t => By (outByte m l t)) (By 0) (4 * k) 64)) ∧ Hid (Below w.heap.size w wr')) (fun i _ => 16 - (intOf i).toNat)
      case atStart =>
        have hs0 := hb0.size
        exact ⟨0, by omega, rfl, by (with_reducible try refine Lib.hid ?_); (repeat (with_reducible first | assumption | (apply Blk.new' <;> (simp; done)) | apply Blk.drew | apply Blk.drewN | apply Blk.alloc | apply Blk.set | apply Blk.setOther)) <;> (try simp [length_fillTo, length_turnTo]) <;> (try omega), by (with_reducible try refine Lib.hid ?_); (repeat (with_reducible first | assumption | (apply Blk.new' <;> (simp; done)) | apply Blk.drew | apply Blk.drewN | apply Blk.alloc | apply Blk.set | apply Blk.setOther)) <;> (try simp [length_fillTo, length_turnTo]) <;> (try omega), by (with_reducible try refine Lib.hid ?_); (repeat (with_reducible first | assumption | (apply Blk.new' <;> (simp; done)) | apply Blk.drew | apply Blk.drewN | apply Blk.alloc | apply Blk.set | apply Blk.setOther)) <;> (try simp [length_fillTo, length_turnTo]) <;> (try omega), Lib.hid (Blk.cast (by (with_reducible try refine Lib.hid ?_); (repeat (with_reducible first | assumption | (apply Blk.new' <;> (simp; done)) | apply Blk.drew | apply Blk.drewN | apply Blk.alloc | apply Blk.set | apply Blk.setOther)) <;> (try simp [length_fillTo, length_turnTo]) <;> (try omega)) (by rfl)), by (with_reducible try refine Lib.hid ?_); (repeat (with_reducible first | assumption | exact Below.refl _ _ | apply Below.drew | apply Below.drewN' | apply Below.setCell | apply Below.alloc)) <;> (try simp [length_fillTo, length_turnTo]) <;> (try omega)⟩
      case round =>
        have hs0 := hb0.size
        clear hA0 hR0 hC0 hb0
        obtain ⟨k, hk, rfl, hA, hR, hC, hO, hbel⟩ := hrel
        rw [hg] at hO
        by_cases hlt : k < 16
        · have hk5 : (k : Int) < 16 := by omega
          have hkm : k < m.length := by rw [HLM.out]; exact hlt
          have hkl : k < l.length := by rw [HL.out]; exact hlt
          obtain ⟨x1, hx1⟩ : ∃ x, m[k]'hkm = x := ⟨_, rfl⟩
          obtain ⟨x2, hx2⟩ : ∃ x, l[k]'hkl = x := ⟨_, rfl⟩
          have c1 : wr.cell? ⟨w.heap.size + 1 + 1, k, none⟩ = some (.int .u32 (x1.toNat : Int)) := by
            have := hC.out.at' k (by simpa using hkm)
            rw [List.getElem_map] at this
            rw [this, ← hx1]; rfl
          have c2 : wr.cell? ⟨w.heap.size, k, none⟩ = some (.int .u32 (x2.toNat : Int)) := by
            have := hA.out.at' k (by simpa using hkl)
            rw [List.getElem_map] at this
            rw [this, ← hx2]; rfl
          have HW : Hid (outWord m l k = x1 + x2) := by
            show m.getD k 0 + l.getD k 0 = _
            rw [← hx1, ← hx2]; simp [List.getD, hkm, hkl]
          have r0 := add_u32 x1 x2
          obtain ⟨x, hx⟩ : ∃ x, x1 + x2 = x := ⟨_, rfl⟩
          rw [hx] at r0 HW
          obtain ⟨p0, hp0⟩ : ∃ p, 4 * k = p := ⟨_, rfl⟩
          obtain ⟨p1, hp1⟩ : ∃ p, p0 + 1 = p := ⟨_, rfl⟩
          obtain ⟨p2, hp2⟩ : ∃ p, p0 + 2 = p := ⟨_, rfl⟩
          obtain ⟨p3, hp3⟩ : ∃ p, p0 + 3 = p := ⟨_, rfl⟩
          have hb : p3 < 64 := by omega
          have e0 : IntKind.i64.wrap (4 * (k : Int)) = (p0 : Int) := by rw [IntKind.wrap_i64]; omega
          have e1 : IntKind.i64.wrap ((p0 : Int) + 1) = (p1 : Int) := by rw [IntKind.wrap_i64]; omega
          have e2 : IntKind.i64.wrap ((p0 : Int) + 2) = (p2 : Int) := by rw [IntKind.wrap_i64]; omega
          have e3 : IntKind.i64.wrap ((p0 : Int) + 3) = (p3 : Int) := by rw [IntKind.wrap_i64]; omega
          have b0 : (p0 : Int) < 64 := by omega
          have b1 : (p1 : Int) < 64 := by omega
          have b2 : (p2 : Int) < 64 := by omega
          have b3 : (p3 : Int) < 64 := by omega
          have n1 : ¬ p0 = p1 := by omega
          have n2 : ¬ p0 = p2 := by omega
          have n3 : ¬ p0 = p3 := by omega
          have n4 : ¬ p1 = p2 := by omega
          have n5 : ¬ p1 = p3 := by omega
          have n6 : ¬ p2 = p3 := by omega
          obtain ⟨v0, d0⟩ : ∃ v, wr.cell? ⟨g, p0, none⟩ = some v := ⟨_, hO.out.at' p0 (by rw [length_fillTo]; omega)⟩
          obtain ⟨v1, d1⟩ : ∃ v, wr.cell? ⟨g, p1, none⟩ = some v := ⟨_, hO.out.at' p1 (by rw [length_fillTo]; omega)⟩
          obtain ⟨v2, d2⟩ : ∃ v, wr.cell? ⟨g, p2, none⟩ = some v := ⟨_, hO.out.at' p2 (by rw [length_fillTo]; omega)⟩
          obtain ⟨v3, d3⟩ : ∃ v, wr.cell? ⟨g, p3, none⟩ = some v := ⟨_, hO.out.at' p3 (by rw [length_fillTo]; exact hb)⟩
          have dz := hO.out.froz
          have hgl := hO.out.lt
          have HP := Lib.hid (And.intro hp0 (And.intro hp1 (And.intro hp2 hp3)))
          clear hp0 hp1 hp2 hp3 hx hx1 hx2
          go_wp2
          go_quiet (fail)
          go_wp2
          have hA1 := hA.out; have hR1 := hR.out; have hC1 := hC.out; have hO1 := hO.out; have hb1 := hbel.out
          have hpp := HP.out
          have hfin : ∃ k' : Nat, k' ≤ 16 ∧ Value.int .i64 ((k : Int) + 1) = Value.int .i64 k' ∧ Hid (Blk (((((wr.drewN nq).setCell ⟨g, p0, none⟩ (.int .u8 ((x.toNat : Int) % 256))).setCell ⟨g, p1, none⟩ (.int .u8 ((x.toNat : Int) / 256 % 256))).setCell ⟨g, p2, none⟩ (.int .u8 ((x.toNat : Int) / 65536 % 256))).setCell ⟨g, p3, none⟩ (.int .u8 ((x.toNat : Int) / 16777216 % 256))) g (fillTo (fun t => By (outByte m l t)) (By 0) (4 * k') 64)) ∧ k' = k + 1 := by
            refine ⟨k + 1, by omega, by go_num, Lib.hid (Blk.cast (by (with_reducible try refine Lib.hid ?_); (repeat (with_reducible first | assumption | (apply Blk.new' <;> (simp; done)) | apply Blk.drew | apply Blk.drewN | apply Blk.alloc | apply Blk.set | apply Blk.setOther)) <;> (try simp [length_fillTo, length_turnTo]) <;> (try omega)) ?_), rfl⟩
            rw [show 4 * (k + 1) = p3 + 1 by omega, ← fillTo_set, show p3 = p2 + 1 by omega, ← fillTo_set, show p2 = p1 + 1 by omega, ← fillTo_set, show p1 = p0 + 1 by omega, ← fillTo_set, show 4 * k = p0 by omega]
            have v0 := outByte_at m l k 0 (by omega); have v1 := outByte_at m l k 1 (by omega); have v2 := outByte_at m l k 2 (by omega); have v3 := outByte_at m l k 3 (by omega)
            rw [HW.out, show 4 * k + 0 = p0 by omega] at v0
            rw [HW.out, show 4 * k + 1 = p0 + 1 by omega] at v1
            rw [HW.out, show 4 * k + 2 = p0 + 1 + 1 by omega] at v2
            rw [HW.out, show 4 * k + 3 = p0 + 1 + 1 + 1 by omega] at v3
            rw [byte0, byte1, byte2, byte3, v0, v1, v2, v3]
          obtain ⟨k', hk1, hk2, hk3, hk4⟩ := hfin
          refine ⟨?_, ?measureO⟩
          rotate_left
          · (simp [intOf]) <;> omega
          first
            | exact ⟨k', hk1, hk2, by (with_reducible try refine Lib.hid ?_); (repeat (with_reducible first | assumption | (apply Blk.new' <;> (simp; done)) | apply Blk.drew | apply Blk.drewN | apply Blk.alloc | apply Blk.set | apply Blk.setOther)) <;> (try simp [length_fillTo, length_turnTo]) <;> (try omega), by (with_reducible try refine Lib.hid ?_); (repeat (with_reducible first | assumption | (apply Blk.new' <;> (simp; done)) | apply Blk.drew | apply Blk.drewN | apply Blk.alloc | apply Blk.set | apply Blk.setOther)) <;> (try simp [length_fillTo, length_turnTo]) <;> (try omega), by (with_reducible try refine Lib.hid ?_); (repeat (with_reducible first | assumption | (apply Blk.new' <;> (simp; done)) | apply Blk.drew | apply Blk.drewN | apply Blk.alloc | apply Blk.set | apply Blk.setOther)) <;> (try simp [length_fillTo, length_turnTo]) <;> (try omega), (by rw [hg]; exact hk3), by (with_reducible try refine Lib.hid ?_); (repeat (with_reducible first | assumption | exact Below.refl _ _ | apply Below.drew | apply Below.drewN' | apply Below.setCell | apply Below.alloc)) <;> (try simp [length_fillTo, length_turnTo]) <;> (try omega)⟩
            | ((repeat apply Exists.intro); exact ⟨⟨k', hk1, hk2, by (with_reducible try refine Lib.hid ?_); (repeat (with_reducible first | assumption | (apply Blk.new' <;> (simp; done)) | apply Blk.drew | apply Blk.drewN | apply Blk.alloc | apply Blk.set | apply Blk.setOther)) <;> (try simp [length_fillTo, length_turnTo]) <;> (try omega), by (with_reducible try refine Lib.hid ?_); (repeat (with_reducible first | assumption | (apply Blk.new' <;> (simp; done)) | apply Blk.drew | apply Blk.drewN | apply Blk.alloc | apply Blk.set | apply Blk.setOther)) <;> (try simp [length_fillTo, length_turnTo]) <;> (try omega), by (with_reducible try refine Lib.hid ?_); (repeat (with_reducible first | assumption | (apply Blk.new' <;> (simp; done)) | apply Blk.drew | apply Blk.drewN | apply Blk.alloc | apply Blk.set | apply Blk.setOther)) <;> (try simp [length_fillTo, length_turnTo]) <;> (try omega), (by rw [hg]; exact hk3), by (with_reducible try refine Lib.hid ?_); (repeat (with_reducible first | assumption | exact Below.refl _ _ | apply Below.drew | apply Below.drewN' | apply Below.setCell | apply Below.alloc)) <;> (try simp [length_fillTo, length_turnTo]) <;> (try omega)⟩, rfl⟩)
        · obtain rfl : k = 16 := by omega
          have hO1 := hO.out
          rw [show 4 * 16 = 64 from rfl, fillTo_full, ← hg] at hO1
          have hlen64 : ((List.range 64).map fun t => By (outByte m l t)).length = 64 := by simp
          have hrow : RowTy Try.prog 46 ((List.range 64).map fun t => By (outByte m l t)).length := row46' hlen64
          have hR1 := hR.out
          have hb1 := hbel.out
          have HF : Hid (((List.range 64).map fun t => By (outByte m l t)) = (blockM l).map By) := by
            show _ = (blockM l).map By
            rw [HM.out, List.map_map]; rfl
          have hone : ∀ v ∈ ((List.range 64).map fun t => By (outByte m l t)), v.oneCell' = true := by
            intro v hv
            obtain ⟨x, -, rfl⟩ := List.mem_map.1 hv
            rfl
          obtain ⟨vs, hvs⟩ : ∃ vs, ((List.range 64).map fun t => By (outByte m l t)) = vs := ⟨_, rfl⟩
          rw [hvs] at hO1 hlen64 hrow HF hone
          have HL64 := Lib.hid hlen64
          clear hg hvs hlen64 hA hR hC hO hbel
          go_wp2_with (first | (refine wpList_load_blk rfl rfl hO1 rfl hrow ?_) | (refine stop_store rfl ?_))
          refine ⟨wpList_store_blk rfl rfl hR1 (by rfl) (by rfl) hrow (by simp [HL64.out, z64]) hone ?_⟩
          intro W5 hR5 hg5
          have hb5 := Below.grownB hb1 hg5 (by omega) hb1.size
          go_wp2
          refine ret_blk (fn := Try.f17) rfl rfl hR5 hrow rfl ⟨?_, hb5⟩
          rw [HF.out]
end Go.Proofs.Ytliemmdadfpdjaa
