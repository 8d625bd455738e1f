/-
  Walk: a text changed by a key, a nonce and a counter.
-/
import Derived.Test.YtliemmdadfpdjaaWg
namespace Go.Proofs.Ytliemmdadfpdjaa
open Go.RowKit
set_option maxHeartbeats 1000000
set_option linter.unusedVariables false
set_option linter.unusedSimpArgs false

/-- a byte of the changed text -/
def xorByte (key nonce : List UInt8) (ctr : UInt32) (msg : List UInt8) (t : Nat) : UInt8 := msg.getD t 0 ^^^ (blockM (firstM key nonce (ctr + UInt32.ofNat (t / 64)))).getD (t % 64) 0
def xorM (key nonce : List UInt8) (ctr : UInt32) (msg : List UInt8) : List UInt8 := (List.range msg.length).map (xorByte key nonce ctr msg)

theorem f2_set12 (l : List UInt32) (nonce : List UInt8) (c : UInt32) : ∀ k, f2 (l.set 12 c) nonce k = (f2 l nonce k).set 12 c
  | 0 => rfl
  | k + 1 => by
    rw [f2, f2_set12 l nonce c k, f2, List.set_comm _ _ (by omega)]
theorem firstM_set (key nonce : List UInt8) (c c' : UInt32) : (firstM key nonce c).set 12 c' = firstM key nonce c' := by
  unfold firstM
  rw [f2_set12, f2_set12, List.set_set]
theorem firstM_get (key nonce : List UInt8) (c : UInt32) : (firstM key nonce c)[12]'(by rw [firstM_length]; omega) = c := by
  unfold firstM
  simp only [f2_set12, List.getElem_set_self]

theorem xor12_bad (vc vm : Value) (w : World) (ok on : Option Addr) (n c m d : Nat) (h : ¬ (n = 32 ∧ m = 12)) :
    Calls Try.prog 12 #[.slice ok n c, .slice on m d, vc, vm] w fun r w' => r = .returned (.tuple #[.slice none 0 0, .int .i64 2]) ∧ w' = w := by
  have h' : (decide (n = 32) && decide (m = 12)) = false := by
    rw [Bool.and_eq_false_iff]
    by_cases h1 : n = 32
    · exact .inr (decide_eq_false (fun h2 => h ⟨h1, h2⟩))
    · exact .inl (decide_eq_false h1)
  have H := Lib.hid h'; clear h h'
  go_enter Try.func12, Try.ntmps12
  go_wp2_with fail
  refine (fits16 ok on n m c d w).mono ?_
  rintro r w' ⟨rfl, hw'⟩
  rw [hw', H.out]; clear hw' w'
  go_wp2
  refine bodyPost_ret (v := .tuple #[.slice none 0 0, .int .i64 2]) (by simp [results, Try.results12, go_sem]) rfl ⟨rfl, rfl⟩

theorem xor12_big (msg : List UInt8) (ctr : UInt32) (w : World) (ok on om : Option Addr) (c d e : Nat) (hmx : msg.length ≤ 1000000) (h : 4294967296 - ctr.toNat < (msg.length + 63) / 64) :
    Calls Try.prog 12 #[.slice ok 32 c, .slice on 12 d, .int .u32 (ctr.toNat : Int), .slice om msg.length e] w fun r w' => r = .returned (.tuple #[.slice none 0 0, .int .i64 3]) ∧ w' = w := by
  have hct := ctr.toNat_lt
  have r0 : IntKind.u64.wrap (msg.length : Int) = (msg.length : Int) := by rw [IntKind.wrap_u64]; omega
  obtain ⟨a, ha⟩ : ∃ a, msg.length + 64 = a := ⟨_, rfl⟩
  have r1 : IntKind.u64.wrap ((msg.length : Int) + 64) = (a : Int) := by rw [IntKind.wrap_u64]; omega
  obtain ⟨b, hb⟩ : ∃ b, msg.length + 63 = b := ⟨_, rfl⟩
  have r2 : IntKind.u64.wrap ((a : Int) - 1) = (b : Int) := by rw [IntKind.wrap_u64]; omega
  obtain ⟨q, hq⟩ : ∃ q, b / 64 = q := ⟨_, rfl⟩
  have r3 : (b : Int) / 64 = (q : Int) := by omega
  have r3' : IntKind.u64.wrap (q : Int) = (q : Int) := by rw [IntKind.wrap_u64]; omega
  have r4 : IntKind.u64.wrap (ctr.toNat : Int) = (ctr.toNat : Int) := by rw [IntKind.wrap_u64]; omega
  obtain ⟨s, hs⟩ : ∃ s, 4294967296 - ctr.toNat = s := ⟨_, rfl⟩
  have r5 : IntKind.u64.wrap (4294967296 - (ctr.toNat : Int)) = (s : Int) := by rw [IntKind.wrap_u64]; omega
  have r6 : (s : Int) < (q : Int) := by omega
  have H := Lib.hid (And.intro h (And.intro ha (And.intro hb (And.intro hq hs))))
  clear h ha hb hq hs hct hmx
  go_enter Try.func12, Try.ntmps12
  go_wp2_with fail
  refine (fits16 ok on 32 12 c d w).mono ?_
  rintro r w' ⟨rfl, hw'⟩
  rw [hw', show (decide (32 = 32) && decide (12 = 12)) = true from rfl]; clear hw' w'
  go_wp2
  refine bodyPost_ret (v := .tuple #[.slice none 0 0, .int .i64 3]) (by simp [results, Try.results12, go_sem]) rfl ⟨rfl, rfl⟩

theorem xorByte_at (key nonce : List UInt8) (ctr : UInt32) (msg : List UInt8) (j i : Nat) (hi : i < 64) (h : 64 * j + i < msg.length) :
    xorByte key nonce ctr msg (64 * j + i) = msg[64 * j + i] ^^^ (blockM (firstM key nonce (ctr + UInt32.ofNat j)))[i]'(by rw [blockM_length]; exact hi) := by
  unfold xorByte
  rw [show (64 * j + i) / 64 = j by omega, show (64 * j + i) % 64 = i by omega]
  have hb : i < (blockM (firstM key nonce (ctr + UInt32.ofNat j))).length := by rw [blockM_length]; exact hi
  simp [List.getD, h, hb]

theorem xor12 (key nonce : List UInt8) (ctr : UInt32) (msg : List UInt8) (w : World) (ok on om : Option Addr) (n c m d k e : Nat) (hk : Reads w ok n key) (hn : Reads w on m nonce) (hm : Reads w om k msg) (hlk : key.length = 32) (hln : nonce.length = 12) (hc : n ≤ c) (hd : m ≤ d)
    (hmx : msg.length ≤ 1000000) (hbl : ¬ 4294967296 - ctr.toNat < (msg.length + 63) / 64) :
    Calls Try.prog 12 #[.slice ok n c, .slice on m d, .int .u32 (ctr.toNat : Int), .slice om k e] w (BytesOk w (xorM key nonce ctr msg)) := by
  obtain rfl : n = 32 := hk.len.trans hlk
  obtain rfl : m = 12 := hn.len.trans hln
  obtain rfl : k = msg.length := hm.len
  have HK := Lib.hid hk; have HN := Lib.hid hn; have HMM := Lib.hid hm.cells; clear hk hn hm
  have HLK := Lib.hid hlk; have HLN := Lib.hid hln; clear hlk hln
  have HC := Lib.hid hc; have HD := Lib.hid hd; clear hc hd
  have HX : Hid (xorM key nonce ctr msg = (List.range msg.length).map (xorByte key nonce ctr msg)) := rfl
  have hct := ctr.toNat_lt
  have r0 : IntKind.u64.wrap (msg.length : Int) = (msg.length : Int) := by rw [IntKind.wrap_u64]; omega
  obtain ⟨a, ha⟩ : ∃ a, msg.length + 64 = a := ⟨_, rfl⟩
  have r1 : IntKind.u64.wrap ((msg.length : Int) + 64) = (a : Int) := by rw [IntKind.wrap_u64]; omega
  obtain ⟨b, hb⟩ : ∃ b, msg.length + 63 = b := ⟨_, rfl⟩
  have r2 : IntKind.u64.wrap ((a : Int) - 1) = (b : Int) := by rw [IntKind.wrap_u64]; omega
  obtain ⟨q, hq⟩ : ∃ q, b / 64 = q := ⟨_, rfl⟩
  have r3 : (b : Int) / 64 = (q : Int) := by omega
  have r3' : IntKind.u64.wrap (q : Int) = (q : Int) := by rw [IntKind.wrap_u64]; omega
  have r4 : IntKind.u64.wrap (ctr.toNat : Int) = (ctr.toNat : Int) := by rw [IntKind.wrap_u64]; omega
  obtain ⟨s, hs⟩ : ∃ s, 4294967296 - ctr.toNat = s := ⟨_, rfl⟩
  have r5 : IntKind.u64.wrap (4294967296 - (ctr.toNat : Int)) = (s : Int) := by rw [IntKind.wrap_u64]; omega
  have r6 : ¬ (s : Int) < (q : Int) := by omega
  have hmk := fun W => run_make_blk (P := Try.prog) W 27 5 (.int .u8 0) 1 rfl (by kernel_rfl) rfl .i64 .i64 msg.length (by omega) (by simp [maxLen]; omega)
  have HMX := Lib.hid hmx
  clear hbl ha hb hq hs hct hmx
  go_enter Try.func12, Try.ntmps12
  go_wp2_with fail
  refine (fits16 ok on 32 12 c d w).mono ?_
  rintro r w' ⟨rfl, hw'⟩
  rw [hw', show (decide (32 = 32) && decide (12 = 12)) = true from rfl]; clear hw' w'
  go_wp2_with fail
  refine (first18 key nonce ctr w ok on 32 c 12 d HK.out HN.out HLK.out HLN.out HC.out HD.out).mono ?_
  rintro r w1 ⟨rfl, hb1⟩
  have hrow : RowTy Try.prog 48 ((firstM key nonce ctr).map U32).length := row48' (by simp [firstM_length])
  have hT : Blk (w1.alloc (.cells z16w.toArray 48)) w1.heap.size z16w := Blk.new' rfl
  have hb2 : Below w.heap.size w (w1.alloc (.cells z16w.toArray 48)) := hb1.alloc hb1.size _
  have HSZ := Lib.hid hb1.size
  unfold W16
  clear r0 r1 r2 r3 r3' r4 r5 r6 hb1
  go_wp2_with (first | (refine stop_store rfl ?_))
  refine ⟨wpList_store_blk rfl rfl hT (by rfl) (by rfl) hrow (by simp [firstM_length, z16w]) (oneU32 _) ?_⟩
  intro w2 hT2 hg2
  have hB2 := Below.grownB hb2 hg2 HSZ.out hb2.size
  have HT2 := Lib.hid hT2; have HB2 := Lib.hid hB2
  have HSZ2 : Hid (w1.heap.size < w2.heap.size) := hT2.lt
  clear hT hb2 hg2 hrow hT2 hB2
  go_wp2
  have hA0 : Blk (w2.alloc (.cells (List.replicate msg.length (.int .u8 0)).toArray 5)) w1.heap.size ((firstM key nonce (ctr + UInt32.ofNat 0)).map U32) := by
    rw [show ctr + UInt32.ofNat 0 = ctr from UInt32.add_zero ctr]; exact HT2.out.alloc _
  have hO0 : Blk (w2.alloc (.cells (List.replicate msg.length (.int .u8 0)).toArray 5)) w2.heap.size (fillTo (fun t => By (xorByte key nonce ctr msg t)) (By 0) (min (64 * 0) msg.length) msg.length) := by
    rw [show min (64 * 0) msg.length = 0 by omega, fillTo_zero]; exact Blk.new' rfl
  have hb0 : Below w.heap.size w (w2.alloc (.cells (List.replicate msg.length (.int .u8 0)).toArray 5)) := HB2.out.alloc HB2.out.size _
  have HA0 := Lib.hid hA0; have HO0 := Lib.hid hO0; have HBB0 := Lib.hid hb0
  clear hA0 hO0 hb0 hmk
  have HBB : Hid (w.heap.size ≤ w2.heap.size) := HB2.out.size
  go_loopw [13] (fun i wr => ∃ j : Nat, j ≤ (msg.length + 63) / 64 ∧ i = .int .i64 (64 * j : Nat) ∧ Hid (Blk wr w1.heap.size ((firstM key nonce (ctr + UInt32.ofNat j)).map U32)) ∧ Hid (Blk wr w2.heap.size (fillTo (fun t => By (xorByte key nonce ctr msg t)) (By 0) (min (64 * j) msg.length) msg.length)) ∧ Hid (Below w.heap.size w wr)) (fun i _ => msg.length + 64 - (intOf i).toNat)
  case atStart => exact ⟨0, by omega, rfl, HA0, HO0, HBB0⟩
  case round =>
    clear HA0 HO0 HBB0
    obtain ⟨j, hj, rfl, hA, hO, hbel⟩ := hrel
    have hmx := HMX.out
    by_cases hlt : 64 * j < msg.length
    · obtain ⟨p, hp⟩ : ∃ p, 64 * j = p := ⟨_, rfl⟩
      obtain ⟨bm, om', rfl, hbm, -⟩ := HMM.out.bytes (i := p) (by omega)
      have hfn : (firstM key nonce (ctr + UInt32.ofNat j)).length = 16 := firstM_length _ _ _
      obtain ⟨cj, hcj⟩ : ∃ x, ctr + UInt32.ofNat j = x := ⟨_, rfl⟩
      have hnext : Hid ((firstM key nonce cj).set 12 (cj + 1) = firstM key nonce (ctr + UInt32.ofNat (j + 1))) := by
        show _ = _
        rw [firstM_set, ← hcj]; congr 1
        rw [UInt32.add_assoc]; congr 1
        apply UInt32.toNat_inj.1
        simp [UInt32.toNat_add, UInt32.toNat_ofNat']
      have hget := firstM_get key nonce cj
      rw [hcj] at hA hfn
      have HBY : Hid (∀ i (hi : i < 64) (h : p + i < msg.length), xorByte key nonce ctr msg (p + i) = msg[p + i] ^^^ (blockM (firstM key nonce cj))[i]'(by rw [blockM_length]; exact hi)) := by
        intro i hi h
        have := xorByte_at key nonce ctr msg j i hi (by rw [hp]; exact h)
        rw [← hcj]
        simpa [hp] using this
      rw [hp] at hlt hO ⊢
      have HP := Lib.hid hp
      have HJ := Lib.hid hj
      clear hcj hp hj
      have hlt' : (p : Int) < (msg.length : Int) := by omega
      have hA' := hA.out
      have hrow : RowTy Try.prog 48 ((firstM key nonce cj).map U32).length := row48' (by simp [hfn])
      have HFN := Lib.hid hfn; have HGET := Lib.hid hget; clear hfn hget
      go_wp2_with (first | (refine wpList_load_blk rfl rfl hA' rfl hrow ?_))
      refine (block17 (firstM key nonce cj) HFN.out wr).mono ?_
      rintro r w3 ⟨rfl, hb3⟩
      have hA3 := hA'.later hb3; have hO3 := hO.out.later hb3; have hbb3 := below_step hbel.out hb3
      have hlb := blockM_length (firstM key nonce cj)
      have hrow46 : RowTy Try.prog 46 ((blockM (firstM key nonce cj)).map By).length := row46' (by simp [hlb])
      have hT : Blk (w3.alloc (.cells z64.toArray 46)) w3.heap.size z64 := Blk.new' rfl
      have hA4 := hA3.alloc (.cells z64.toArray 46); have hO4 := hO3.alloc (.cells z64.toArray 46)
      have hb4 := hbb3.alloc hbb3.size (.cells z64.toArray 46)
      have HLB := Lib.hid hlb
      clear hA' hA hO hbel hb3 hrow hlb
      go_wp2_with (first | (refine stop_store rfl ?_))
      refine ⟨wpList_store_blk rfl rfl hT (by rfl) (by rfl) hrow46 (by simp [HLB.out, z64]) (By_oneCell _) ?_⟩
      intro w5 hT5 hg5
      have hlA := hA3.lt; have hlO := hO3.lt
      have hA5 := hA4.grown hg5 (by simp; omega); have hO5 := hO4.grown hg5 (by simp; omega)
      have hb5 := Below.grownB hb4 hg5 hbb3.size hb4.size
      have HA5 := Lib.hid hA5; have HO5 := Lib.hid hO5; have HT5 := Lib.hid hT5; have HB5 := Lib.hid hb5
      have hne1 : ¬ w2.heap.size = w3.heap.size := by omega
      have hne2 : ¬ w1.heap.size = w2.heap.size := by have := HSZ2.out; omega
      obtain ⟨bl, hbl⟩ : ∃ bl, blockM (firstM key nonce cj) = bl := ⟨_, rfl⟩
      obtain ⟨M, hM⟩ : ∃ M, min 64 (msg.length - p) = M := ⟨_, rfl⟩
      obtain ⟨rest, hrest⟩ : ∃ r, msg.length - p = r := ⟨_, rfl⟩
      have r1 : IntKind.i64.wrap ((msg.length : Int) - (p : Int)) = (rest : Int) := by rw [IntKind.wrap_i64]; omega
      have HO6 : Hid (Hid (Blk w5 w2.heap.size (fillTo (fun t => By (xorByte key nonce ctr msg t)) (By 0) (p + 0) msg.length))) := by
        have := HO5.out
        rw [show min p msg.length = p + 0 by omega] at this
        exact this
      have HT6 : Hid (Hid (Blk w5 w3.heap.size (bl.map By))) := by rw [← hbl]; exact HT5
      have HBLL : Hid (bl.length = 64) := by rw [← hbl]; exact HLB
      have HBY2 : Hid (∀ i (hi : i < 64) (h : p + i < msg.length), xorByte key nonce ctr msg (p + i) = msg[p + i] ^^^ bl[i]'(by rw [HBLL.out]; exact hi)) := by
        intro i hi h
        rw [HBY.out i hi h]
        congr 1
        simp only [hbl]
      have HREST := Lib.hid hrest
      clear HBY hA3 hA4 hO3 hO4 hT hbb3 hb4 hT5 hg5 hA5 hO5 hb5 HO5 HT5 hrow46 hM hrest hbl
      by_cases hle : 64 ≤ rest
      · have hle' : (64 : Int) ≤ (rest : Int) := by omega
        have hrr := HREST.out
        go_wp2
        go_loopw [51] (fun i wr' => ∃ i' : Nat, i' ≤ 64 ∧ i = .int .i64 i' ∧ Hid (Blk wr' w1.heap.size ((firstM key nonce cj).map U32)) ∧ Hid (Blk wr' w2.heap.size (fillTo (fun t => By (xorByte key nonce ctr msg t)) (By 0) (p + i') msg.length)) ∧ Hid (Blk wr' w3.heap.size (bl.map By)) ∧ Hid (Below w.heap.size w wr')) (fun i _ => 64 - (intOf i).toNat)
        case atStart => exact ⟨0, by omega, rfl, HA5, HO6.out, HT6.out, HB5⟩
        case round =>
          clear HA5 HO6 HT6 HB5
          obtain ⟨i, hi, rfl, hA, hO, hT, hbel⟩ := hrel
          by_cases hlti : i < 64
          · have hi5 : (i : Int) < 64 := by omega
            have hpi : p + i < msg.length := by omega
            have hibl : i < bl.length := by rw [HBLL.out]; omega
            have hi64 : (i : Int) < 64 := by omega
            obtain ⟨b', o', hbo, hb', hc'⟩ := (HMM.out.below hbel.out (Nat.le_refl _)).bytes (i := p + i) hpi
            have hbo' : b' = bm ∧ o' = om' := by simpa using hbo.symm
            obtain ⟨rfl, rfl⟩ := hbo'
            obtain ⟨x1, hx1⟩ : ∃ x, msg[p + i]'hpi = x := ⟨_, rfl⟩
            have hbb := HBY2.out i (by omega) hpi
            obtain ⟨x2, hx2⟩ : ∃ x, bl[i]'hibl = x := ⟨_, rfl⟩
            have HV : Hid (xorByte key nonce ctr msg (p + i) = x1 ^^^ x2) := by
              show _ = _
              rw [hbb, hx1]; congr 1
            have c1 : wr.cell? ⟨b', o' + (p + i), none⟩ = some (.int .u8 (x1.toNat : Int)) := by rw [hc', hx1]
            have c2 : wr.cell? ⟨w3.heap.size, i, none⟩ = some (.int .u8 (x2.toNat : Int)) := by
              have := hT.out.at' i (by simpa using hibl)
              rw [List.getElem_map, hx2] at this
              exact this
            obtain ⟨t, ht⟩ : ∃ t, p + i = t := ⟨_, rfl⟩
            rw [ht] at c1 hpi HV
            have e1 : IntKind.i64.wrap ((p : Int) + (i : Int)) = (t : Int) := by rw [IntKind.wrap_i64]; omega
            have htl : (t : Int) < (msg.length : Int) := by omega
            obtain ⟨v0, c3⟩ : ∃ v, wr.cell? ⟨w2.heap.size, t, none⟩ = some v := ⟨_, hO.out.at' t (by rw [length_fillTo]; exact hpi)⟩
            have cz := hO.out.froz
            have HTT := Lib.hid ht
            have rx := bits_xor_u8 x1 x2
            obtain ⟨y, hy⟩ : ∃ y, x1 ^^^ x2 = y := ⟨_, rfl⟩
            rw [hy] at rx HV
            clear hbo hb' hc' hx1 hx2 hbb hibl ht hy
            go_wp2
            go_region
            go_wp2
            have hA1 := hA.out; have hO1 := hO.out; have hT1 := hT.out; have hb1 := hbel.out
            have hs1 := HBB.out
            have htt := HTT.out
            have hfin : ∃ k' : Nat, k' ≤ 64 ∧ Value.int .i64 ((i : Int) + 1) = Value.int .i64 k' ∧ Hid (Blk ((wr.setCell ⟨w2.heap.size, t, none⟩ (.int .u8 (y.toNat : Int))).drew) w2.heap.size (fillTo (fun t => By (xorByte key nonce ctr msg t)) (By 0) (p + k') msg.length)) := by
              refine ⟨i + 1, by omega, by go_num, Lib.hid (Blk.cast (by (with_reducible try refine Lib.hid ?_); (repeat (with_reducible first | assumption | (apply Blk.new' <;> (simp; done)) | apply Blk.drew | apply Blk.drewN | apply Blk.alloc | apply Blk.set | apply Blk.setOther)) <;> (try simp [length_fillTo, length_turnTo]) <;> (try omega)) ?_)⟩
              rw [show p + (i + 1) = t + 1 by omega, ← fillTo_set, show p + i = t by omega, HV.out]
              rfl
            obtain ⟨k', hk1, hk2, hk3⟩ := hfin
            refine ⟨?_, ?measureI⟩
            rotate_left
            · (simp [intOf]) <;> omega
            first
              | exact ⟨k', hk1, hk2, by (with_reducible try refine Lib.hid ?_); (repeat (with_reducible first | assumption | (apply Blk.new' <;> (simp; done)) | apply Blk.drew | apply Blk.drewN | apply Blk.alloc | apply Blk.set | apply Blk.setOther)) <;> (try simp [length_fillTo, length_turnTo]) <;> (try omega), hk3, by (with_reducible try refine Lib.hid ?_); (repeat (with_reducible first | assumption | (apply Blk.new' <;> (simp; done)) | apply Blk.drew | apply Blk.drewN | apply Blk.alloc | apply Blk.set | apply Blk.setOther)) <;> (try simp [length_fillTo, length_turnTo]) <;> (try omega), by (with_reducible try refine Lib.hid ?_); (repeat (with_reducible first | assumption | exact Below.refl _ _ | apply Below.drew | apply Below.drewN' | apply Below.setCell | apply Below.alloc)) <;> (try simp [length_fillTo, length_turnTo]) <;> (try omega)⟩
              | ((repeat apply Exists.intro); exact ⟨⟨k', hk1, hk2, by (with_reducible try refine Lib.hid ?_); (repeat (with_reducible first | assumption | (apply Blk.new' <;> (simp; done)) | apply Blk.drew | apply Blk.drewN | apply Blk.alloc | apply Blk.set | apply Blk.setOther)) <;> (try simp [length_fillTo, length_turnTo]) <;> (try omega), hk3, by (with_reducible try refine Lib.hid ?_); (repeat (with_reducible first | assumption | (apply Blk.new' <;> (simp; done)) | apply Blk.drew | apply Blk.drewN | apply Blk.alloc | apply Blk.set | apply Blk.setOther)) <;> (try simp [length_fillTo, length_turnTo]) <;> (try omega), by (with_reducible try refine Lib.hid ?_); (repeat (with_reducible first | assumption | exact Below.refl _ _ | apply Below.drew | apply Below.drewN' | apply Below.setCell | apply Below.alloc)) <;> (try simp [length_fillTo, length_turnTo]) <;> (try omega)⟩, rfl⟩)
          · obtain rfl : i = 64 := by omega
            have hA1 := hA.out; have hO1 := hO.out; have hb1 := hbel.out
            have hl12 : 12 < ((firstM key nonce cj).map U32).length := by rw [List.length_map, HFN.out]; omega
            have c0 := hA1.at' 12 hl12
            have c0' : wr.cell? ⟨w1.heap.size, 12, none⟩ = some (.int .u32 (cj.toNat : Int)) := by
              rw [c0, List.getElem_map, HGET.out]; rfl
            have cz := hA1.froz
            have rn := add_u32 cj 1
            rw [show ((1 : UInt32).toNat : Int) = 1 from rfl] at rn
            obtain ⟨cn, hcn⟩ : ∃ x, cj + 1 = x := ⟨_, rfl⟩
            have HNX := hnext.out
            rw [hcn] at rn HNX
            have HCN := Lib.hid HNX
            have hA2 := Lib.hid (hA1.set 12 hl12 (.int .u32 (cn.toNat : Int)))
            have hO2 := Lib.hid (hO1.setOther (a := ⟨w1.heap.size, 12, none⟩) hne2 (.int .u32 (cn.toNat : Int)))
            have hb2 := Lib.hid (hb1.setCell (p := ⟨w1.heap.size, 12, none⟩) HSZ.out (.int .u32 (cn.toNat : Int)))
            clear c0 hcn HNX hA1 hO1 hb1 hA hO hT hbel hl12
            have rp : IntKind.i64.wrap ((p : Int) + 64) = ((p + 64 : Nat) : Int) := by rw [IntKind.wrap_i64]; omega
            obtain ⟨p', hp'⟩ : ∃ z, p + 64 = z := ⟨_, rfl⟩
            rw [hp'] at rp
            have HPP := Lib.hid hp'; clear hp'
            go_wp2
            have hpp := HPP.out; have hpe := HP.out; have hjj := HJ.out
            have hfin : ∃ j' : Nat, j' ≤ (msg.length + 63) / 64 ∧ Value.int .i64 (p' : Int) = Value.int .i64 ((64 * j' : Nat) : Int) ∧ Hid (Blk (wr.setCell ⟨w1.heap.size, 12, none⟩ (.int .u32 (cn.toNat : Int))) w1.heap.size ((firstM key nonce (ctr + UInt32.ofNat j')).map U32)) ∧ Hid (Blk (wr.setCell ⟨w1.heap.size, 12, none⟩ (.int .u32 (cn.toNat : Int))) w2.heap.size (fillTo (fun t => By (xorByte key nonce ctr msg t)) (By 0) (min (64 * j') msg.length) msg.length)) ∧ Hid (Below w.heap.size w (wr.setCell ⟨w1.heap.size, 12, none⟩ (.int .u32 (cn.toNat : Int)))) := by
              refine ⟨j + 1, by omega, by rw [show 64 * (j + 1) = p' by omega], Lib.hid (Blk.cast hA2.out ?_), Lib.hid (Blk.cast hO2.out ?_), hb2⟩
              · rw [← HCN.out, List.map_set]; rfl
              · rw [show min (64 * (j + 1)) msg.length = p + 64 by omega]
            refine ⟨?_, ?measureJ⟩
            rotate_left
            · (simp [intOf]) <;> omega
            first
              | exact hfin
              | ((repeat apply Exists.intro); exact ⟨hfin, rfl⟩)
      · have hle' : ¬ (64 : Int) ≤ (rest : Int) := by omega
        have hrr := HREST.out
        clear hle
        go_wp2
        go_loopw [51] (fun i wr' => ∃ i' : Nat, i' ≤ rest ∧ i = .int .i64 i' ∧ Hid (Blk wr' w1.heap.size ((firstM key nonce cj).map U32)) ∧ Hid (Blk wr' w2.heap.size (fillTo (fun t => By (xorByte key nonce ctr msg t)) (By 0) (p + i') msg.length)) ∧ Hid (Blk wr' w3.heap.size (bl.map By)) ∧ Hid (Below w.heap.size w wr')) (fun i _ => rest - (intOf i).toNat)
        case atStart => exact ⟨0, by omega, rfl, HA5, HO6.out, HT6.out, HB5⟩
        case round =>
          clear HA5 HO6 HT6 HB5
          obtain ⟨i, hi, rfl, hA, hO, hT, hbel⟩ := hrel
          by_cases hlti : i < rest
          · have hi5 : (i : Int) < rest := by omega
            have hpi : p + i < msg.length := by omega
            have hibl : i < bl.length := by rw [HBLL.out]; omega
            have hi64 : (i : Int) < 64 := by omega
            obtain ⟨b', o', hbo, hb', hc'⟩ := (HMM.out.below hbel.out (Nat.le_refl _)).bytes (i := p + i) hpi
            have hbo' : b' = bm ∧ o' = om' := by simpa using hbo.symm
            obtain ⟨rfl, rfl⟩ := hbo'
            obtain ⟨x1, hx1⟩ : ∃ x, msg[p + i]'hpi = x := ⟨_, rfl⟩
            have hbb := HBY2.out i (by omega) hpi
            obtain ⟨x2, hx2⟩ : ∃ x, bl[i]'hibl = x := ⟨_, rfl⟩
            have HV : Hid (xorByte key nonce ctr msg (p + i) = x1 ^^^ x2) := by
              show _ = _
              rw [hbb, hx1]; congr 1
            have c1 : wr.cell? ⟨b', o' + (p + i), none⟩ = some (.int .u8 (x1.toNat : Int)) := by rw [hc', hx1]
            have c2 : wr.cell? ⟨w3.heap.size, i, none⟩ = some (.int .u8 (x2.toNat : Int)) := by
              have := hT.out.at' i (by simpa using hibl)
              rw [List.getElem_map, hx2] at this
              exact this
            obtain ⟨t, ht⟩ : ∃ t, p + i = t := ⟨_, rfl⟩
            rw [ht] at c1 hpi HV
            have e1 : IntKind.i64.wrap ((p : Int) + (i : Int)) = (t : Int) := by rw [IntKind.wrap_i64]; omega
            have htl : (t : Int) < (msg.length : Int) := by omega
            obtain ⟨v0, c3⟩ : ∃ v, wr.cell? ⟨w2.heap.size, t, none⟩ = some v := ⟨_, hO.out.at' t (by rw [length_fillTo]; exact hpi)⟩
            have cz := hO.out.froz
            have HTT := Lib.hid ht
            have rx := bits_xor_u8 x1 x2
            obtain ⟨y, hy⟩ : ∃ y, x1 ^^^ x2 = y := ⟨_, rfl⟩
            rw [hy] at rx HV
            clear hbo hb' hc' hx1 hx2 hbb hibl ht hy
            go_wp2
            go_region
            go_wp2
            have hA1 := hA.out; have hO1 := hO.out; have hT1 := hT.out; have hb1 := hbel.out
            have hs1 := HBB.out
            have htt := HTT.out
            have hfin : ∃ k' : Nat, k' ≤ rest ∧ Value.int .i64 ((i : Int) + 1) = Value.int .i64 k' ∧ Hid (Blk ((wr.setCell ⟨w2.heap.size, t, none⟩ (.int .u8 (y.toNat : Int))).drew) w2.heap.size (fillTo (fun t => By (xorByte key nonce ctr msg t)) (By 0) (p + k') msg.length)) := by
              refine ⟨i + 1, by omega, by go_num, Lib.hid (Blk.cast (by (with_reducible try refine Lib.hid ?_); (repeat (with_reducible first | assumption | (apply Blk.new' <;> (simp; done)) | apply Blk.drew | apply Blk.drewN | apply Blk.alloc | apply Blk.set | apply Blk.setOther)) <;> (try simp [length_fillTo, length_turnTo]) <;> (try omega)) ?_)⟩
              rw [show p + (i + 1) = t + 1 by omega, ← fillTo_set, show p + i = t by omega, HV.out]
              rfl
            obtain ⟨k', hk1, hk2, hk3⟩ := hfin
            refine ⟨?_, ?measureI2⟩
            rotate_left
            · (simp [intOf]) <;> omega
            first
              | exact ⟨k', hk1, hk2, by (with_reducible try refine Lib.hid ?_); (repeat (with_reducible first | assumption | (apply Blk.new' <;> (simp; done)) | apply Blk.drew | apply Blk.drewN | apply Blk.alloc | apply Blk.set | apply Blk.setOther)) <;> (try simp [length_fillTo, length_turnTo]) <;> (try omega), hk3, by (with_reducible try refine Lib.hid ?_); (repeat (with_reducible first | assumption | (apply Blk.new' <;> (simp; done)) | apply Blk.drew | apply Blk.drewN | apply Blk.alloc | apply Blk.set | apply Blk.setOther)) <;> (try simp [length_fillTo, length_turnTo]) <;> (try omega), by (with_reducible try refine Lib.hid ?_); (repeat (with_reducible first | assumption | exact Below.refl _ _ | apply Below.drew | apply Below.drewN' | apply Below.setCell | apply Below.alloc)) <;> (try simp [length_fillTo, length_turnTo]) <;> (try omega)⟩
              | ((repeat apply Exists.intro); exact ⟨⟨k', hk1, hk2, by (with_reducible try refine Lib.hid ?_); (repeat (with_reducible first | assumption | (apply Blk.new' <;> (simp; done)) | apply Blk.drew | apply Blk.drewN | apply Blk.alloc | apply Blk.set | apply Blk.setOther)) <;> (try simp [length_fillTo, length_turnTo]) <;> (try omega), hk3, by (with_reducible try refine Lib.hid ?_); (repeat (with_reducible first | assumption | (apply Blk.new' <;> (simp; done)) | apply Blk.drew | apply Blk.drewN | apply Blk.alloc | apply Blk.set | apply Blk.setOther)) <;> (try simp [length_fillTo, length_turnTo]) <;> (try omega), by (with_reducible try refine Lib.hid ?_); (repeat (with_reducible first | assumption | exact Below.refl _ _ | apply Below.drew | apply Below.drewN' | apply Below.setCell | apply Below.alloc)) <;> (try simp [length_fillTo, length_turnTo]) <;> (try omega)⟩, rfl⟩)
          · obtain rfl : i = rest := by omega
            have hA1 := hA.out; have hO1 := hO.out; have hb1 := hbel.out
            have hl12 : 12 < ((firstM key nonce cj).map U32).length := by rw [List.length_map, HFN.out]; omega
            have c0 := hA1.at' 12 hl12
            have c0' : wr.cell? ⟨w1.heap.size, 12, none⟩ = some (.int .u32 (cj.toNat : Int)) := by
              rw [c0, List.getElem_map, HGET.out]; rfl
            have cz := hA1.froz
            have rn := add_u32 cj 1
            rw [show ((1 : UInt32).toNat : Int) = 1 from rfl] at rn
            obtain ⟨cn, hcn⟩ : ∃ x, cj + 1 = x := ⟨_, rfl⟩
            have HNX := hnext.out
            rw [hcn] at rn HNX
            have HCN := Lib.hid HNX
            have hA2 := Lib.hid (hA1.set 12 hl12 (.int .u32 (cn.toNat : Int)))
            have hO2 := Lib.hid (hO1.setOther (a := ⟨w1.heap.size, 12, none⟩) hne2 (.int .u32 (cn.toNat : Int)))
            have hb2 := Lib.hid (hb1.setCell (p := ⟨w1.heap.size, 12, none⟩) HSZ.out (.int .u32 (cn.toNat : Int)))
            clear c0 hcn HNX hA1 hO1 hb1 hA hO hT hbel hl12
            have rp : IntKind.i64.wrap ((p : Int) + 64) = ((p + 64 : Nat) : Int) := by rw [IntKind.wrap_i64]; omega
            obtain ⟨p', hp'⟩ : ∃ z, p + 64 = z := ⟨_, rfl⟩
            rw [hp'] at rp
            have HPP := Lib.hid hp'; clear hp'
            go_wp2
            have hpp := HPP.out; have hpe := HP.out; have hjj := HJ.out
            have hfin : ∃ j' : Nat, j' ≤ (msg.length + 63) / 64 ∧ Value.int .i64 (p' : Int) = Value.int .i64 ((64 * j' : Nat) : Int) ∧ Hid (Blk (wr.setCell ⟨w1.heap.size, 12, none⟩ (.int .u32 (cn.toNat : Int))) w1.heap.size ((firstM key nonce (ctr + UInt32.ofNat j')).map U32)) ∧ Hid (Blk (wr.setCell ⟨w1.heap.size, 12, none⟩ (.int .u32 (cn.toNat : Int))) w2.heap.size (fillTo (fun t => By (xorByte key nonce ctr msg t)) (By 0) (min (64 * j') msg.length) msg.length)) ∧ Hid (Below w.heap.size w (wr.setCell ⟨w1.heap.size, 12, none⟩ (.int .u32 (cn.toNat : Int)))) := by
              refine ⟨j + 1, by omega, by rw [show 64 * (j + 1) = p' by omega], Lib.hid (Blk.cast hA2.out ?_), Lib.hid (Blk.cast hO2.out ?_), hb2⟩
              · rw [← HCN.out, List.map_set]; rfl
              · rw [show min (64 * (j + 1)) msg.length = p + i by omega]
            refine ⟨?_, ?measureJ2⟩
            rotate_left
            · (simp [intOf]) <;> omega
            first
              | exact hfin
              | ((repeat apply Exists.intro); exact ⟨hfin, rfl⟩)
    · obtain rfl : j = (msg.length + 63) / 64 := by omega
      have hO1 := hO.out
      rw [show min (64 * ((msg.length + 63) / 64)) msg.length = msg.length by omega, fillTo_full] at hO1
      have hlt' : ¬ ((64 * ((msg.length + 63) / 64) : Nat) : Int) < (msg.length : Int) := by omega
      generalize 64 * ((msg.length + 63) / 64) = p at *
      have hb1 := hbel.out
      clear hA hO hbel hlt hj
      go_wp2
      refine bodyPost_ret (v := .tuple #[.slice (some ⟨w2.heap.size, 0, none⟩) msg.length msg.length, .int .i64 0]) (by simp [results, Try.results12, go_sem]) rfl ⟨some ⟨w2.heap.size, 0, none⟩, msg.length, msg.length, rfl, ⟨by simp [HX.out], ?_⟩, Nat.le_refl _, by simp [maxLen]; omega, hb1⟩
      have := hO1.cells
      rw [HX.out, List.map_map]
      exact this
end Go.Proofs.Ytliemmdadfpdjaa
