/-
  Walks: a word of bytes, the first words, whether a key fits.
-/
import Derived.Test.YtliemmdadfpdjaaWd
import Derived.Deep.QuietTactic
import Derived.BigQuiet
namespace Go.Proofs.Ytliemmdadfpdjaa
open Go.RowKit
set_option maxHeartbeats 1000000
set_option linter.unusedVariables false
set_option linter.unusedSimpArgs false

theorem Cells.drop {w : World} {b o : Nat} {l : List Value} (h : Cells w (some ⟨b, o, none⟩) l) (n : Nat) : Cells w (some ⟨b, o + n, none⟩) (l.drop n) := by
  intro i hi
  rw [List.length_drop] at hi
  obtain ⟨b', o', e, hc⟩ := h (n + i) (by omega)
  simp at e
  obtain ⟨rfl, rfl⟩ := e
  refine ⟨b, o + n, rfl, ?_⟩
  rw [Nat.add_assoc, hc, List.getElem?_drop]

/-- a word of four bytes -/
def wordM (a b c d : UInt8) : UInt32 := a.toUInt32 ||| (b.toUInt32 <<< 8) ||| (c.toUInt32 <<< 16) ||| (d.toUInt32 <<< 24)
theorem wide_u32 (c : UInt8) : (c.toNat : Int) % (4294967296 : Int) = (c.toUInt32.toNat : Int) := by
  have := c.toNat_lt
  rw [UInt8.toNat_toUInt32]; omega
theorem sh8 (y : UInt32) : (y.toNat : Int) * (256 : Int) % (4294967296 : Int) = ((y <<< 8).toNat : Int) := by
  have := shl_u32 y (q := 8) (by omega)
  rw [IntKind.wrap_u32] at this; exact this
theorem sh16 (y : UInt32) : (y.toNat : Int) * (65536 : Int) % (4294967296 : Int) = ((y <<< 16).toNat : Int) := by
  have := shl_u32 y (q := 16) (by omega)
  rw [IntKind.wrap_u32] at this; exact this
theorem sh24 (y : UInt32) : (y.toNat : Int) * (16777216 : Int) % (4294967296 : Int) = ((y <<< 24).toNat : Int) := by
  have := shl_u32 y (q := 24) (by omega)
  rw [IntKind.wrap_u32] at this; exact this

theorem word21 (x0 x1 x2 x3 : UInt8) (w : World) (b o n c : Nat) (hn : 4 ≤ n) (h0 : w.cell? ⟨b, o, none⟩ = some (.int .u8 (x0.toNat : Int))) (h1 : w.cell? ⟨b, o + 1, none⟩ = some (.int .u8 (x1.toNat : Int))) (h2 : w.cell? ⟨b, o + 2, none⟩ = some (.int .u8 (x2.toNat : Int))) (h3 : w.cell? ⟨b, o + 3, none⟩ = some (.int .u8 (x3.toNat : Int))) :
    Calls Try.prog 21 #[.slice (some ⟨b, o, none⟩) n c] w fun r w' => r = .returned (U32 (wordM x0 x1 x2 x3)) ∧ Below w.heap.size w w' := by
  have r0 : (0 : Int) < n := by omega
  have r1 : (1 : Int) < n := by omega
  have r2 : (2 : Int) < n := by omega
  have r3 : (3 : Int) < n := by omega
  go_enter Try.func21, Try.ntmps21
  go_wp2
  go_quiet (fail)
  go_wp2
  refine bodyPost_ret (results_tmp rfl _ _ _) rfl ⟨?_, Below.drewN' (Below.refl _ _) _⟩
  show Ending.returned (Value.int IntKind.u32 _) = _
  unfold U32 wordM
  rw [wide_u32, wide_u32, wide_u32, wide_u32, sh8, sh16, sh24, or_u32, or_u32, or_u32]

def wordAt (l : List UInt8) (p : Nat) : UInt32 := wordM (l.getD p 0) (l.getD (p + 1) 0) (l.getD (p + 2) 0) (l.getD (p + 3) 0)

theorem word_at (l : List UInt8) (w : World) (b o n c p : Nat) (h : Cells w (some ⟨b, o, none⟩) (l.map By)) (hp : p + 4 ≤ l.length) (hn : n = l.length - p) :
    Calls Try.prog 21 #[.slice (some ⟨b, o + p, none⟩) n c] w fun r w' => r = .returned (U32 (wordAt l p)) ∧ Below w.heap.size w w' := by
  have cell : ∀ j, j < 4 → w.cell? ⟨b, o + p + j, none⟩ = some (.int .u8 ((l.getD (p + j) 0).toNat : Int)) := by
    intro j hj
    have hlt : p + j < l.length := by omega
    obtain ⟨b', o', e, -, hc⟩ := h.bytes hlt
    simp at e
    obtain ⟨rfl, rfl⟩ := e
    rw [Nat.add_assoc, hc]
    simp [List.getD, hlt]
  exact word21 _ _ _ _ w b (o + p) n c (by omega) (cell 0 (by omega)) (cell 1 (by omega)) (cell 2 (by omega)) (cell 3 (by omega))

theorem fits16 (ok on : Option Addr) (n m c d : Nat) (w : World) : Calls Try.prog 16 #[.slice ok n c, .slice on m d] w fun r w' => r = .returned (.bool (decide (n = 32) && decide (m = 12))) ∧ w' = w := by
  go_enter Try.func16, Try.ntmps16
  by_cases h : n = 32
  · subst h
    by_cases h2 : m = 12
    · subst h2
      go_wp2
      refine bodyPost_ret (v := .bool true) (by simp [results, Try.results16, go_sem]) rfl ⟨rfl, rfl⟩
    · have h2' : ¬ (m : Int) = 12 := by omega
      have H := Lib.hid h2; clear h2
      go_wp2
      refine bodyPost_ret (v := .bool false) (by simp [results, Try.results16, go_sem, h2']) rfl ⟨?_, rfl⟩
      simp [H.out]
  · have h' : ¬ (n : Int) = 32 := by omega
    have H := Lib.hid h; clear h
    go_wp2
    refine bodyPost_ret (v := .bool false) (by simp [results, Try.results16, go_sem, h']) rfl ⟨?_, rfl⟩
    simp [H.out]

/-- the first words -/
def consts16 : List UInt32 := [1634760805, 857760878, 2036477234, 1797285236, 0, 0, 0, 0, 0, 0, 0, 0, 0, 0, 0, 0]
def f1 (key : List UInt8) : Nat → List UInt32
  | 0 => consts16
  | k + 1 => (f1 key k).set (4 + k) (wordAt key (4 * k))
def f2 (l : List UInt32) (nonce : List UInt8) : Nat → List UInt32
  | 0 => l
  | k + 1 => (f2 l nonce k).set (13 + k) (wordAt nonce (4 * k))
def firstM (key nonce : List UInt8) (ctr : UInt32) : List UInt32 := f2 ((f1 key 8).set 12 ctr) nonce 3
theorem f1_length (key : List UInt8) : ∀ k, (f1 key k).length = 16
  | 0 => rfl
  | k + 1 => by simp only [f1, List.length_set, f1_length key k]
theorem f2_length (l : List UInt32) (nonce : List UInt8) : ∀ k, (f2 l nonce k).length = l.length
  | 0 => rfl
  | k + 1 => by simp only [f2, List.length_set, f2_length l nonce k]
theorem firstM_length (key nonce : List UInt8) (ctr : UInt32) : (firstM key nonce ctr).length = 16 := by
  simp only [firstM, f2_length, List.length_set, f1_length]

theorem first18 (key nonce : List UInt8) (ctr : UInt32) (w : World) (ok on : Option Addr) (n c m d : Nat) (hk : Reads w ok n key) (hn : Reads w on m nonce) (hlk : key.length = 32) (hln : nonce.length = 12) (hc : n ≤ c) (hd : m ≤ d) :
    Calls Try.prog 18 #[.slice ok n c, .slice on m d, .int .u32 (ctr.toNat : Int)] w fun r w' => r = .returned (W16 (firstM key nonce ctr)) ∧ Below w.heap.size w w' := by
  obtain rfl : n = 32 := hk.len.trans hlk
  obtain rfl : m = 12 := hn.len.trans hln
  obtain ⟨bk, pk, rfl, hbk, -⟩ := hk.cells.bytes (i := 0) (by omega)
  obtain ⟨bn, pn, rfl, hbn, -⟩ := hn.cells.bytes (i := 0) (by omega)
  have HK := Lib.hid hk.cells; have HN := Lib.hid hn.cells; clear hk hn
  have HLK := Lib.hid hlk; have HLN := Lib.hid hln; clear hlk hln
  have HM : Hid (firstM key nonce ctr = f2 ((f1 key 8).set 12 ctr) nonce 3) := rfl
  unfold W16
  go_enter Try.func18, Try.ntmps18
  go_wp2
  go_loopw [11] (fun i wr => ∃ k : Nat, k ≤ 8 ∧ i = .int .i64 k ∧ Hid (Blk wr w.heap.size z16w) ∧ Hid (Blk wr (w.heap.size + 1) ((f1 key k).map U32)) ∧ Hid (Below w.heap.size w wr)) (fun i _ => 8 - (intOf i).toNat)
  case atStart => exact ⟨0, by omega, rfl, Lib.hid (Blk.cast (by (with_reducible try refine Lib.hid ?_); (repeat (with_reducible first | assumption | (apply Blk.new' <;> (simp; done)) | apply Blk.drew | apply Blk.drewN | apply Blk.alloc | apply Blk.set | apply Blk.setOther)) <;> (try simp [length_fillTo, length_turnTo]) <;> (try omega)) (by rfl)), Lib.hid (Blk.cast (by (with_reducible try refine Lib.hid ?_); (repeat (with_reducible first | assumption | (apply Blk.new' <;> (simp; done)) | apply Blk.drew | apply Blk.drewN | apply Blk.alloc | apply Blk.set | apply Blk.setOther)) <;> (try simp [length_fillTo, length_turnTo]) <;> (try omega)) (by rfl)), by (with_reducible try refine Lib.hid ?_); (repeat (with_reducible first | assumption | exact Below.refl _ _ | apply Below.drew | apply Below.drewN' | apply Below.setCell | apply Below.alloc)) <;> (try simp [length_fillTo, length_turnTo]) <;> (try omega)⟩
  case round =>
    obtain ⟨k, hk, rfl, hR, hA, hbel⟩ := hrel
    by_cases hlt : k < 8
    · have hk5 : (k : Int) < 8 := by omega
      have HS : Hid (f1 key (k + 1) = (f1 key k).set (4 + k) (wordAt key (4 * k))) := rfl
      have hlen := f1_length key k
      obtain ⟨p, hp⟩ : ∃ p, 4 + k = p := ⟨_, rfl⟩
      obtain ⟨q, hq⟩ : ∃ q, 4 * k = q := ⟨_, rfl⟩
      have r1 : IntKind.i64.wrap (4 + (k : Int)) = (p : Int) := by rw [IntKind.wrap_i64]; omega
      have r2 : IntKind.i64.wrap (4 * (k : Int)) = (q : Int) := by rw [IntKind.wrap_i64]; omega
      have r3 : (p : Int) < 16 := by omega
      have r4 : (q : Int) ≤ 32 := by omega
      have r5 : ¬ c = q := by omega
      have hpl : p < (f1 key k).length := by rw [hlen]; omega
      have hq4 : q + 4 ≤ (key).length := by rw [HLK.out]; omega
      rw [hp, hq] at HS
      have HKQ := Lib.hid (And.intro hp hq); clear hp hq
      generalize hcur : f1 key k = cur at *
      have HCUR := Lib.hid hcur; have HLEN := Lib.hid hlen; clear hcur hlen
      have hA' := hA.out; have hR' := hR.out; have hb' := hbel.out
      clear hA hR hbel
      go_wp2_with fail
      refine (word_at key wr bk pk _ _ q (HK.out.below hb' (Nat.le_refl _)) hq4 (by rw [HLK.out])).mono ?_
      rintro r w1 ⟨rfl, hb1⟩
      have hA1 := hA'.later hb1; have hR1 := hR'.later hb1; have hb1' := below_step hb' hb1
      clear hA' hR' hb' hb1
      have c0 := hA1.at' p (by rw [List.length_map]; exact hpl)
      have cz := hA1.froz
      have hA2 := hA1.set p (by rw [List.length_map]; exact hpl) (U32 (wordAt key q))
      have hR2 := hR1.setOther (a := ⟨w.heap.size + 1, p, none⟩) (by simp) (U32 (wordAt key q))
      have hb2 := hb1'.setCell (p := ⟨w.heap.size + 1, p, none⟩) (by simp) (U32 (wordAt key q))
      have HA2 := Lib.hid hA2; have HR2 := Lib.hid hR2; have HB2 := Lib.hid hb2
      clear hA1 hR1 hb1' hA2 hR2 hb2
      unfold U32 at *
      go_wp2
      have hfin : ∃ k' : Nat, k' ≤ 8 ∧ Value.int .i64 ((k : Int) + 1) = Value.int .i64 k' ∧ Hid (Blk (w1.setCell ⟨w.heap.size + 1, p, none⟩ (.int .u32 ((wordAt key q).toNat : Int))) w.heap.size z16w) ∧ Hid (Blk (w1.setCell ⟨w.heap.size + 1, p, none⟩ (.int .u32 ((wordAt key q).toNat : Int))) (w.heap.size + 1) ((f1 key k').map U32)) ∧ Hid (Below w.heap.size w (w1.setCell ⟨w.heap.size + 1, p, none⟩ (.int .u32 ((wordAt key q).toNat : Int)))) := by
        have hh := HS.out
        refine ⟨k + 1, by omega, by go_num, HR2, Lib.hid (Blk.cast HA2.out ?_), HB2⟩
        rw [hh, List.map_set]; rfl
      refine ⟨?_, ?measureA⟩
      rotate_left
      · (simp [intOf]) <;> omega
      first
        | exact hfin
        | ((repeat apply Exists.intro); refine ⟨hfin, rfl⟩)
    · obtain rfl : k = 8 := by omega
      have hl8 := f1_length key 8
      obtain ⟨v0, c0⟩ : ∃ v, wr.cell? ⟨w.heap.size + 1, 12, none⟩ = some v := ⟨_, hA.out.at' 12 (by rw [List.length_map, hl8]; omega)⟩
      have cz := hA.out.froz
      have hA1 := hA.out.set 12 (by rw [List.length_map, hl8]; omega) (.int .u32 (ctr.toNat : Int))
      have hR1 := hR.out.setOther (a := ⟨w.heap.size + 1, 12, none⟩) (by simp) (.int .u32 (ctr.toNat : Int))
      have hb1 := hbel.out.setCell (p := ⟨w.heap.size + 1, 12, none⟩) (by simp) (.int .u32 (ctr.toNat : Int))
      have hl9 : ((f1 key 8).set 12 ctr).length = 16 := by rw [List.length_set, hl8]
      have HA1 : Hid (Blk (wr.setCell ⟨w.heap.size + 1, 12, none⟩ (.int .u32 (ctr.toNat : Int))) (w.heap.size + 1) (((f1 key 8).set 12 ctr).map U32)) := by
        rw [List.map_set]; exact hA1
      have HR1 := Lib.hid hR1; have HB1 := Lib.hid hb1
      clear hA1 hR1 hb1 hl8
      generalize (f1 key 8).set 12 ctr = m at *
      have HL9 := Lib.hid hl9; clear hl9
      go_wp2
      clear c0 cz hA hR hbel
      go_loopw [25] (fun i wr => ∃ k : Nat, k ≤ 3 ∧ i = .int .i64 k ∧ Hid (Blk wr w.heap.size z16w) ∧ Hid (Blk wr (w.heap.size + 1) ((f2 m nonce k).map U32)) ∧ Hid (Below w.heap.size w wr)) (fun i _ => 3 - (intOf i).toNat)
      case atStart => exact ⟨0, by omega, rfl, HR1, HA1, HB1⟩
      case round =>
        clear HA1 HR1 HB1
        obtain ⟨k, hk, rfl, hR, hA, hbel⟩ := hrel
        by_cases hlt : k < 3
        · have hk5 : (k : Int) < 3 := by omega
          have HS : Hid (f2 m nonce (k + 1) = (f2 m nonce k).set (13 + k) (wordAt nonce (4 * k))) := rfl
          have hlen : (f2 m nonce k).length = 16 := (f2_length m nonce k).trans HL9.out
          obtain ⟨p, hp⟩ : ∃ p, 13 + k = p := ⟨_, rfl⟩
          obtain ⟨q, hq⟩ : ∃ q, 4 * k = q := ⟨_, rfl⟩
          have r1 : IntKind.i64.wrap (13 + (k : Int)) = (p : Int) := by rw [IntKind.wrap_i64]; omega
          have r2 : IntKind.i64.wrap (4 * (k : Int)) = (q : Int) := by rw [IntKind.wrap_i64]; omega
          have r3 : (p : Int) < 16 := by omega
          have r4 : (q : Int) ≤ 12 := by omega
          have r5 : ¬ d = q := by omega
          have hpl : p < (f2 m nonce k).length := by rw [hlen]; omega
          have hq4 : q + 4 ≤ (nonce).length := by rw [HLN.out]; omega
          rw [hp, hq] at HS
          have HKQ := Lib.hid (And.intro hp hq); clear hp hq
          generalize hcur : f2 m nonce k = cur at *
          have HCUR := Lib.hid hcur; have HLEN := Lib.hid hlen; clear hcur hlen
          have hA' := hA.out; have hR' := hR.out; have hb' := hbel.out
          clear hA hR hbel
          go_wp2_with fail
          refine (word_at nonce wr bn pn _ _ q (HN.out.below hb' (Nat.le_refl _)) hq4 (by rw [HLN.out])).mono ?_
          rintro r w1 ⟨rfl, hb1⟩
          have hA1 := hA'.later hb1; have hR1 := hR'.later hb1; have hb1' := below_step hb' hb1
          clear hA' hR' hb' hb1
          have c0 := hA1.at' p (by rw [List.length_map]; exact hpl)
          have cz := hA1.froz
          have hA2 := hA1.set p (by rw [List.length_map]; exact hpl) (U32 (wordAt nonce q))
          have hR2 := hR1.setOther (a := ⟨w.heap.size + 1, p, none⟩) (by simp) (U32 (wordAt nonce q))
          have hb2 := hb1'.setCell (p := ⟨w.heap.size + 1, p, none⟩) (by simp) (U32 (wordAt nonce q))
          have HA2 := Lib.hid hA2; have HR2 := Lib.hid hR2; have HB2 := Lib.hid hb2
          clear hA1 hR1 hb1' hA2 hR2 hb2
          unfold U32 at *
          go_wp2
          have hfin : ∃ k' : Nat, k' ≤ 3 ∧ Value.int .i64 ((k : Int) + 1) = Value.int .i64 k' ∧ Hid (Blk (w1.setCell ⟨w.heap.size + 1, p, none⟩ (.int .u32 ((wordAt nonce q).toNat : Int))) w.heap.size z16w) ∧ Hid (Blk (w1.setCell ⟨w.heap.size + 1, p, none⟩ (.int .u32 ((wordAt nonce q).toNat : Int))) (w.heap.size + 1) ((f2 m nonce k').map U32)) ∧ Hid (Below w.heap.size w (w1.setCell ⟨w.heap.size + 1, p, none⟩ (.int .u32 ((wordAt nonce q).toNat : Int)))) := by
            have hh := HS.out
            refine ⟨k + 1, by omega, by go_num, HR2, Lib.hid (Blk.cast HA2.out ?_), HB2⟩
            rw [hh, List.map_set]; rfl
          refine ⟨?_, ?measureB⟩
          rotate_left
          · (simp [intOf]) <;> omega
          first
            | exact hfin
            | ((repeat apply Exists.intro); refine ⟨hfin, rfl⟩)
        · obtain rfl : k = 3 := by omega
          have hl5 : (f2 m nonce 3).length = 16 := (f2_length m nonce 3).trans HL9.out
          generalize f2 m nonce 3 = o at *
          have hA' := hA.out; have hR' := hR.out; have hb' := hbel.out
          have hrow : RowTy Try.prog 48 (o.map U32).length := row48' (by simp [hl5])
          have HL5 := Lib.hid hl5; clear hl5
          clear hA hR hbel
          go_wp2_with (first | (refine wpList_load_blk rfl rfl hA' rfl hrow ?_) | (refine stop_store rfl ?_))
          refine ⟨wpList_store_blk rfl rfl hR' (by rfl) (by rfl) hrow (by simp [HL5.out, z16w]) (oneU32 _) ?_⟩
          intro W5 hR5 hg5
          have hb5 := Below.grownB hb' hg5 (Nat.le_refl _) hb'.size
          go_wp2
          refine ret_blk (fn := Try.f18) rfl rfl hR5 hrow rfl ⟨?_, hb5⟩
          rw [HM.out]
end Go.Proofs.Ytliemmdadfpdjaa
