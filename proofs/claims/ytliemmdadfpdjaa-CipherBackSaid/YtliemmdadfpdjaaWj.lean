/-
  Walk: the document's answer's blocks: the first words.
-/
import Derived.Test.YtliemmdadfpdjaaWg
import Derived.Test.YtliemmdadfpdjaaWi
namespace Go.Proofs.Ytliemmdadfpdjaa
open Go.RowKit Go.Proofs.Ytliemmdadfpdjaa.Plan Go.Proofs.Ytliemmdadfpdjaa.Eager
set_option maxHeartbeats 2000000
set_option maxRecDepth 20000
set_option linter.unusedVariables false
set_option linter.unusedSimpArgs false

theorem el50 : Elem Try.prog 50 22 1 4 := Elem.of (.int .u32 0) rfl (by kernel_rfl) rfl (by omega)

theorem Blk.drewN' {w : World} {b : Nat} {cs : List Value} (h : Blk w b cs) (n : Nat) : Blk (w.drewN n).drew b cs := (h.drewN n).drew

theorem word_at' (l : List UInt8) (w : World) (b o n c p : Nat) (h : Cells w (some ⟨b, o, none⟩) (l.map By)) (hp : p + 4 ≤ l.length) (hn : 4 ≤ n) :
    Calls Try.prog 19 #[.slice (some ⟨b, o + p, none⟩) n c] w fun r w' => r = .returned (U32 (wordAt l p)) ∧ Below w.heap.size w w' := by
  have cell : ∀ j, j < 4 → w.cell? ⟨b, o + p + j, none⟩ = some (.int .u8 ((l.getD (p + j) 0).toNat : Int)) := by
    intro j hj
    have hlt : p + j < l.length := by omega
    obtain ⟨b', o', e, -, hc⟩ := h.bytes hlt
    simp at e
    obtain ⟨rfl, rfl⟩ := e
    rw [Nat.add_assoc, hc]
    simp [List.getD, hlt]
  exact word19 _ _ _ _ w b (o + p) n c hn (cell 0 (by omega)) (cell 1 (by omega)) (cell 2 (by omega)) (cell 3 (by omega))

def keyWords (key : List UInt8) (k : Nat) : List UInt32 := [1634760805, 857760878, 2036477234, 1797285236] ++ (List.range k).map fun j => wordAt key (4 * j)
theorem keyWords_succ (key : List UInt8) (k : Nat) : keyWords key (k + 1) = keyWords key k ++ [wordAt key (4 * k)] := by
  unfold keyWords
  rw [List.range_succ, List.map_append, List.append_assoc]; rfl

theorem block11_bad (vc : Value) (w : World) (ok on : Option Addr) (n c m d : Nat) (h : ¬ (n = 32 ∧ m = 12)) :
    Calls Try.prog 11 #[.slice ok n c, .slice on m d, vc] w fun r w' => r = .returned (.tuple #[.slice none 0 0, .int .i64 2]) ∧ w' = w := by
  by_cases h1 : n = 32
  · subst h1
    have h2 : ¬ (m : Int) = 12 := by omega
    clear h
    go_enter Try.func11, Try.ntmps11
    go_wp2
    refine bodyPost_ret (v := .tuple #[.slice none 0 0, .int .i64 2]) (by simp [results, Try.results11, go_sem]) rfl ⟨rfl, rfl⟩
  · have h2 : ¬ (n : Int) = 32 := by omega
    clear h h1
    go_enter Try.func11, Try.ntmps11
    go_wp2
    refine bodyPost_ret (v := .tuple #[.slice none 0 0, .int .i64 2]) (by simp [results, Try.results11, go_sem]) rfl ⟨rfl, rfl⟩

def PV (p : Nat) : Value := .int .i64 (p : Int)
def placesL : List Nat := [0, 4, 8, 12, 1, 5, 9, 13, 2, 6, 10, 14, 3, 7, 11, 15, 0, 5, 10, 15, 1, 6, 11, 12, 2, 7, 8, 13, 3, 4, 9, 14]
def pIter (l : List UInt32) : Nat → List UInt32
  | 0 => l
  | k + 1 => quarterM (pIter l k) (placesL.getD (4 * k) 0) (placesL.getD (4 * k + 1) 0) (placesL.getD (4 * k + 2) 0) (placesL.getD (4 * k + 3) 0)
theorem pIter_length (l : List UInt32) : ∀ k, (pIter l k).length = l.length
  | 0 => rfl
  | k + 1 => (quarterM_length _ _ _ _ _).trans (pIter_length l k)
theorem pIter_round (l : List UInt32) : pIter l 8 = roundM l := rfl
theorem places_lt : ∀ t, t < 32 → placesL.getD t 0 < 16 := by decide
theorem first_words (key nonce : List UInt8) (ctr : UInt32) : keyWords key 8 ++ [ctr, wordAt nonce 0, wordAt nonce 4, wordAt nonce 8] = firstM key nonce ctr := rfl

/-- bytes and no error -/
def BytesOk' (w : World) (l : List UInt8) (e : Ending) (w' : World) : Prop :=
  ∃ oa n c, e = .returned (.tuple #[.slice oa n c, .int .i64 0]) ∧ Reads w' oa n l ∧ n ≤ c ∧ c ≤ maxLen ∧ (∀ a, oa = some a → w.heap.size ≤ a.block) ∧ Below w.heap.size w w'

theorem block11 (key nonce : List UInt8) (ctr : UInt32) (w : World) (ok on : Option Addr) (n c m d : Nat) (hk : Reads w ok n key) (hn : Reads w on m nonce) (hlk : key.length = 32) (hln : nonce.length = 12) (hc : n ≤ c) (hd : m ≤ d) :
    Calls Try.prog 11 #[.slice ok n c, .slice on m d, .int .u32 (ctr.toNat : Int)] w (BytesOk' w (blockM (firstM key nonce ctr))) := by
  obtain rfl : n = 32 := hk.len.trans hlk
  obtain rfl : m = 12 := hn.len.trans hln
  obtain ⟨bk, pk, rfl, hbk, -⟩ := hk.cells.bytes (i := 0) (by omega)
  obtain ⟨bn, pn, rfl, hbn, -⟩ := hn.cells.bytes (i := 0) (by omega)
  have HK := Lib.hid hk.cells; have HN := Lib.hid hn.cells; clear hk hn
  have HLK := Lib.hid hlk; have HLN := Lib.hid hln; clear hlk hln
  go_enter Try.func11, Try.ntmps11
  go_wp2
  have h0 := Own.lit w ((keyWords key 0).map U32) 22 1 4 (by simp [maxLen]) (by simp [keyWords]) w.heap.size (Nat.le_refl _)
  have H0 := Lib.hid h0; clear h0
  go_loopw [8, 9] (fun v i wr => ∃ k : Nat, k ≤ 8 ∧ i = .int .i64 (4 * k : Nat) ∧ Hid (Own wr w.heap.size 22 1 v (4 + k) ((keyWords key k).map U32)) ∧ Hid (Below w.heap.size w wr)) (fun _ i _ => 32 - (intOf i).toNat)
  case atStart => exact ⟨0, by omega, rfl, H0, by (with_reducible try refine Lib.hid ?_); (repeat (with_reducible first | assumption | exact Below.refl _ _ | apply Below.drew | apply Below.drewN' | apply Below.setCell | apply Below.alloc)) <;> (try simp [length_fillTo, length_turnTo]) <;> (try omega)⟩
  case round =>
    obtain ⟨k, hk, rfl, hO, hbel⟩ := hrel
    clear H0
    by_cases hlt : k < 8
    · obtain ⟨p, hp⟩ : ∃ p, 4 * k = p := ⟨_, rfl⟩
      obtain ⟨e, he⟩ : ∃ e, p + 4 = e := ⟨_, rfl⟩
      have r0 : (p : Int) < 32 := by omega
      have r1 : IntKind.i64.wrap ((p : Int) + 4) = (e : Int) := by rw [IntKind.wrap_i64]; omega
      have r2 : (p : Int) ≤ (e : Int) := by omega
      have r3 : (e : Int) ≤ (c : Int) := by omega
      have r4 : ¬ c = p := by omega
      have r5 : e - p = 4 := by omega
      have hp4 : p + 4 ≤ 32 := by omega
      have HS := Lib.hid (keyWords_succ key k)
      rw [hp] at HS ⊢
      have HP := Lib.hid (And.intro hp he); clear hp he
      go_wp2_with fail
      refine (word_at' key wr bk pk _ _ p (HK.out.below hbel.out (Nat.le_refl _)) (by rw [HLK.out]; exact hp4) (by omega)).mono ?_
      rintro r w1 ⟨rfl, hb1⟩
      have hO1 := hO.out.later hb1; have hbb1 := below_step hbel.out hb1
      clear hO hbel hb1
      unfold U32
      go_wp2_with (refine stop_append rfl ?_)
      refine ⟨wpList_app el50 rfl rfl (by rfl) (hO1.alloc _) (by rfl) (m := 1) rfl (Cells.new (cs := [Value.int .u32 ((wordAt key p).toNat : Int)])) (by simp [Value.oneCell']) (by simp [maxLen]; omega) (by omega) (by simp; have := hbb1.size; omega) ?_⟩
      intro v' w2 hO2 hg2
      have hb2 : Below w.heap.size w w2 := (hO1.alloc (.cells [Value.int .u32 ((wordAt key p).toNat : Int)].toArray 22)).below hg2 (hbb1.alloc hbb1.size _) (Nat.le_refl _) (by simp; have := hbb1.size; omega)
      have HO2 := Lib.hid hO2; have HB2 := Lib.hid hb2
      clear hO1 hbb1 hO2 hg2 hb2
      go_wp2
      go_roundw
      case measure => (simp [intOf]) <;> omega
      case rel =>
        have hpe := HP.out
        refine ⟨k + 1, by omega, by rw [show 4 * (k + 1) = e by omega], ?_, HB2⟩
        have := HO2.out
        rw [HS.out, List.map_append]
        exact this
    · obtain rfl : k = 8 := by omega
      have d4 : (4 : Int) ≤ (d : Int) := by omega
      have d8 : (8 : Int) ≤ (d : Int) := by omega
      have d12 : (12 : Int) ≤ (d : Int) := by omega
      have dn4 : ¬ d = 4 := by omega
      have dn8 : ¬ d = 8 := by omega
      go_wp2
      refine wp_region_plan (some w.heap.size) [] [] (.take 0 (.take 1 (.take 2 (.take 3 (.take 5 (.take 6 (.take 8 (.take 9 (.one 4 (.one 7 (.one 10 (.one 11 (.one 12 (.take 13 .done)))))))))))))) (by kernel_rfl) (by kernel_rfl) (fun _ _ dd _ _ h => by cases dd <;> exact h) ?_
      intro W0 hW0
      have hOW0 : Own W0 w.heap.size 22 1 u8 12 ((keyWords key 8).map U32) := by rw [hW0]; exact hO.out.drew
      have hbW0 : Below w.heap.size w W0 := by rw [hW0]; exact hbel.out.drew
      have hzW0 : w.heap.size ≤ W0.heap.size := hbW0.size
      clear hW0 hO hbel
      (refine pl_take (d := 43) (v := ?_) rfl rfl rfl ?_ ?_; rotate_left; (focus ((intro w' hb0 hw'; go_simp) <;> with_reducible rfl)); simp only [Act.put, List.setIfInBounds_toArray, List.set_cons_zero, List.set_cons_succ])
      (refine pl_take (d := 44) (v := ?_) rfl rfl rfl ?_ ?_; rotate_left; (focus ((intro w' hb0 hw'; go_simp) <;> with_reducible rfl)); simp only [Act.put, List.setIfInBounds_toArray, List.set_cons_zero, List.set_cons_succ])
      (refine pl_take (d := 45) (v := ?_) rfl rfl rfl ?_ ?_; rotate_left; (focus ((intro w' hb0 hw'; go_simp) <;> with_reducible rfl)); simp only [Act.put, List.setIfInBounds_toArray, List.set_cons_zero, List.set_cons_succ])
      (refine pl_take (d := 46) (v := ?_) rfl rfl rfl ?_ ?_; rotate_left; (focus ((intro w' hb0 hw'; go_simp) <;> with_reducible rfl)); simp only [Act.put, List.setIfInBounds_toArray, List.set_cons_zero, List.set_cons_succ])
      (refine pl_take (d := 48) (v := ?_) rfl rfl rfl ?_ ?_; rotate_left; (focus ((intro w' hb0 hw'; go_simp) <;> with_reducible rfl)); simp only [Act.put, List.setIfInBounds_toArray, List.set_cons_zero, List.set_cons_succ])
      (refine pl_take (d := 49) (v := ?_) rfl rfl rfl ?_ ?_; rotate_left; (focus ((intro w' hb0 hw'; go_simp) <;> with_reducible rfl)); simp only [Act.put, List.setIfInBounds_toArray, List.set_cons_zero, List.set_cons_succ])
      (refine pl_take (d := 51) (v := ?_) rfl rfl rfl ?_ ?_; rotate_left; (focus ((intro w' hb0 hw'; go_simp) <;> with_reducible rfl)); simp only [Act.put, List.setIfInBounds_toArray, List.set_cons_zero, List.set_cons_succ])
      (refine pl_take (d := 52) (v := ?_) rfl rfl rfl ?_ ?_; rotate_left; (focus ((intro w' hb0 hw'; go_simp) <;> with_reducible rfl)); simp only [Act.put, List.setIfInBounds_toArray, List.set_cons_zero, List.set_cons_succ])
      refine pl_one rfl rfl (fun K hK => ?_)
      go_simp
      refine (word_at' nonce W0 bn pn _ _ 0 (HN.out.below hbW0 (Nat.le_refl _)) (by rw [HLN.out]; omega) (by omega)).mono ?_
      rintro r W1 ⟨rfl, hbx⟩
      refine hK _ _ (hbx.mono hzW0) ?_
      have hOW1 := hOW0.later hbx; have hbW1 := below_step hbW0 hbx; have hzW1 := Nat.le_trans hzW0 hbx.size
      clear hK hbx hOW0 hbW0 hzW0
      unfold U32
      refine pl_one rfl rfl (fun K hK => ?_)
      go_simp
      refine (word_at' nonce W1 bn pn _ _ 4 (HN.out.below hbW1 (Nat.le_refl _)) (by rw [HLN.out]; omega) (by omega)).mono ?_
      rintro r W2 ⟨rfl, hbx⟩
      refine hK _ _ (hbx.mono hzW1) ?_
      have hOW2 := hOW1.later hbx; have hbW2 := below_step hbW1 hbx; have hzW2 := Nat.le_trans hzW1 hbx.size
      clear hK hbx hOW1 hbW1 hzW1
      unfold U32
      refine pl_one rfl rfl (fun K hK => ?_)
      go_simp
      refine (word_at' nonce W2 bn pn _ _ 8 (HN.out.below hbW2 (Nat.le_refl _)) (by rw [HLN.out]; omega) (by omega)).mono ?_
      rintro r W3 ⟨rfl, hbx⟩
      refine hK _ _ (hbx.mono hzW2) ?_
      have hOW3 := hOW2.later hbx; have hbW3 := below_step hbW2 hbx; have hzW3 := Nat.le_trans hzW2 hbx.size
      clear hK hbx hOW2 hbW2 hzW2
      unfold U32
      refine pl_one rfl rfl (fun K hK => ?_)
      go_simp
      refine hK _ _ ((Below.refl _ _).alloc hzW3 _ : Below w.heap.size W3 _) ?_
      have hO4 := hOW3.alloc (.cells [Value.int .u32 (ctr.toNat : Int), .int .u32 ((wordAt nonce 0).toNat : Int), .int .u32 ((wordAt nonce 4).toNat : Int), .int .u32 ((wordAt nonce 8).toNat : Int)].toArray 22)
      have hN4 := Blk.new W3 [Value.int .u32 (ctr.toNat : Int), .int .u32 ((wordAt nonce 0).toNat : Int), .int .u32 ((wordAt nonce 4).toNat : Int), .int .u32 ((wordAt nonce 8).toNat : Int)] 22
      have hb4 := hbW3.alloc hbW3.size (.cells [Value.int .u32 (ctr.toNat : Int), .int .u32 ((wordAt nonce 0).toNat : Int), .int .u32 ((wordAt nonce 4).toNat : Int), .int .u32 ((wordAt nonce 8).toNat : Int)].toArray 22)
      have hz4 : w.heap.size ≤ (W3.alloc (.cells [Value.int .u32 (ctr.toNat : Int), .int .u32 ((wordAt nonce 0).toNat : Int), .int .u32 ((wordAt nonce 4).toNat : Int), .int .u32 ((wordAt nonce 8).toNat : Int)].toArray 22)).heap.size := hb4.size
      clear hK
      generalize W3.alloc (.cells [Value.int .u32 (ctr.toNat : Int), .int .u32 ((wordAt nonce 0).toNat : Int), .int .u32 ((wordAt nonce 4).toNat : Int), .int .u32 ((wordAt nonce 8).toNat : Int)].toArray 22) = W4 at *
      refine pl_one rfl rfl (fun K hK => ?_)
      refine wp_app el50 (by rfl) (by rfl) hO4 (by rfl) (m := 4) rfl hN4.cells (by simp [Value.oneCell']) (by simp [maxLen]) (by omega) hz4 ?_
      intro v2 W5 hO5 hg5
      have hb5 := hO4.below hg5 hb4 (Nat.le_refl _) hz4
      refine hK _ _ (hO4.below hg5 (Below.refl _ _) (Nat.le_refl _) hz4 : Below w.heap.size W4 W5) ?_
      clear hK hO4 hN4 hb4 hg5
      (refine pl_take (d := 8) (v := ?_) rfl rfl rfl ?_ ?_; rotate_left; (focus ((intro w' hb0 hw'; go_simp) <;> with_reducible rfl)); simp only [Act.put, List.setIfInBounds_toArray, List.set_cons_zero, List.set_cons_succ])
      refine pl_end ?_
      clear d4 d8 d12 dn4 dn8
      have HO5 := Lib.hid hO5; have HB5 := Lib.hid hb5
      clear hO5 hb5 hz4
      have hfw : Hid (Own W5 w.heap.size 22 1 v2 16 ((firstM key nonce ctr).map U32)) := by
        rw [← first_words, List.map_append]; exact HO5
      have hll := firstM_length key nonce ctr
      obtain ⟨l, hl⟩ : ∃ l, firstM key nonce ctr = l := ⟨_, rfl⟩
      rw [hl] at hfw hll
      have HLL := Lib.hid hll; have HFL := Lib.hid hl
      clear HO5 hll hl hOW3 hbW3 hzW3
      obtain ⟨g, cw, rfl, hw1, hw2, hgw, hA5⟩ := hfw.out.blk (by omega)
      have HB5' := HB5.out
      clear hfw
      go_wp2_with (refine stop_append rfl ?_)
      have h0 := Own.lit W5 [] 22 1 0 (by simp [maxLen]) rfl W5.heap.size (Nat.le_refl _)
      refine ⟨wpList_app el50 rfl rfl (by rfl) h0 (by rfl) (m := 16) (by simp [HLL.out]) (hA5.cells.alloc _) (oneU32 l) (by simp [maxLen]) (by omega) (by simp) ?_⟩
      intro v3 W6 hO6 hg6
      have hA6 := h0.blkKept hg6 (hA5.alloc _) hA5.lt
      have hb6 := h0.below hg6 (HB5'.alloc HB5'.size (.cells #[] 22)) HB5'.size (by simp)
      obtain ⟨g2, cb, rfl, hv1, hv2, hbg2, hL6⟩ := hO6.blk (by omega)
      have hg2 : ¬ g = g2 := by have := hA5.lt; omega
      have hgw' : w.heap.size ≤ g := hgw
      have hsz6 := hb6.size
      have hgl := hA6.lt; have hgl2 := hL6.lt
      have HA6 := Lib.hid hA6; have HL6 : Hid (Blk W6 g2 (l.map U32)) := Lib.hid (by simpa using hL6)
      have HB6 := Lib.hid hb6
      have HGW := Lib.hid hgw
      clear hA5 HB5 HB5' h0 hO6 hg6 hA6 hL6 hb6 hbg2 hgw hw1 hw2 hv1 hv2
      go_wp2
      have hg3 : ¬ g = W6.heap.size := by omega
      have hg23 : ¬ g2 = W6.heap.size := by omega
      go_loopw [12] (fun i wr => ∃ k : Nat, k ≤ 10 ∧ i = .int .i64 k ∧ Hid (Blk wr g ((bIter l k).map U32)) ∧ Hid (Blk wr g2 (l.map U32)) ∧ Hid (Blk wr W6.heap.size (placesL.map PV)) ∧ Hid (Below w.heap.size w wr)) (fun i _ => 10 - (intOf i).toNat)
      case atStart =>
        have hA6 := HA6.out; have hL6 := HL6.out; have hb6 := HB6.out
        have hP6 : Blk (W6.alloc (.cells (placesL.map PV).toArray 3)) W6.heap.size (placesL.map PV) := Blk.new' rfl
        exact ⟨0, by omega, rfl, Lib.hid (Blk.cast (by (with_reducible try refine Lib.hid ?_); (repeat (with_reducible first | assumption | (apply Blk.new' <;> (simp; done)) | apply Blk.drew | apply Blk.drewN | apply Blk.alloc | apply Blk.set | apply Blk.setOther)) <;> (try simp [length_fillTo, length_turnTo]) <;> (try omega)) (by rfl)), by (with_reducible try refine Lib.hid ?_); (repeat (with_reducible first | assumption | (apply Blk.new' <;> (simp; done)) | apply Blk.drew | apply Blk.drewN | apply Blk.alloc | apply Blk.set | apply Blk.setOther)) <;> (try simp [length_fillTo, length_turnTo]) <;> (try omega), Lib.hid hP6, by (with_reducible try refine Lib.hid ?_); (repeat (with_reducible first | assumption | exact Below.refl _ _ | apply Below.drew | apply Below.drewN' | apply Below.setCell | apply Below.alloc)) <;> (try simp [length_fillTo, length_turnTo]) <;> (try omega)⟩
      case round =>
        clear HA6 HL6 HB6
        obtain ⟨k, hk, rfl, hA, hL, hP, hbel⟩ := hrel
        by_cases hlt : k < 10
        · have hk5 : (k : Int) < 10 := by omega
          have HS : Hid (bIter l (k + 1) = roundM (bIter l k)) := rfl
          have hlen : (bIter l k).length = 16 := (bIter_length l k).trans HLL.out
          generalize bIter l k = m at *
          have HLM := Lib.hid hlen; clear hlen
          go_wp2
          go_loopw [13] (fun i wr => ∃ k : Nat, k ≤ 8 ∧ i = .int .i64 (4 * k : Nat) ∧ Hid (Blk wr g ((pIter m k).map U32)) ∧ Hid (Blk wr g2 (l.map U32)) ∧ Hid (Blk wr W6.heap.size (placesL.map PV)) ∧ Hid (Below w.heap.size w wr)) (fun i _ => 32 - (intOf i).toNat)
          case atStart => exact ⟨0, by omega, rfl, hA, hL, hP, hbel⟩
          case round =>
            clear hA hL hP hbel
            obtain ⟨j, hj, rfl, hA, hL, hP, hbel⟩ := hrel
            by_cases hltj : j < 8
            · have HSJ : Hid (pIter m (j + 1) = quarterM (pIter m j) (placesL.getD (4 * j) 0) (placesL.getD (4 * j + 1) 0) (placesL.getD (4 * j + 2) 0) (placesL.getD (4 * j + 3) 0)) := rfl
              have hcl : (pIter m j).length = 16 := (pIter_length m j).trans HLM.out
              generalize pIter m j = cur at *
              have HCL := Lib.hid hcl
              obtain ⟨p, hp⟩ : ∃ p, 4 * j = p := ⟨_, rfl⟩
              obtain ⟨p1, hp1⟩ : ∃ p', p + 1 = p' := ⟨_, rfl⟩
              obtain ⟨p2, hp2⟩ : ∃ p', p + 2 = p' := ⟨_, rfl⟩
              obtain ⟨p3, hp3⟩ : ∃ p', p + 3 = p' := ⟨_, rfl⟩
              obtain ⟨p4, hp4⟩ : ∃ p', p + 4 = p' := ⟨_, rfl⟩
              have hpl : placesL.length = 32 := rfl
              obtain ⟨a1, ha1⟩ : ∃ z, placesL.getD p 0 = z := ⟨_, rfl⟩
              obtain ⟨a2, ha2⟩ : ∃ z, placesL.getD p1 0 = z := ⟨_, rfl⟩
              obtain ⟨a3, ha3⟩ : ∃ z, placesL.getD p2 0 = z := ⟨_, rfl⟩
              obtain ⟨a4, ha4⟩ : ∃ z, placesL.getD p3 0 = z := ⟨_, rfl⟩
              have hi : a1 < 16 := by rw [← ha1]; exact places_lt p (by omega)
              have hj' : a2 < 16 := by rw [← ha2]; exact places_lt p1 (by omega)
              have hk' : a3 < 16 := by rw [← ha3]; exact places_lt p2 (by omega)
              have hm' : a4 < 16 := by rw [← ha4]; exact places_lt p3 (by omega)
              have cellP : ∀ t, t < 32 → wr.cell? ⟨W6.heap.size, t, none⟩ = some (.int .i64 ((placesL.getD t 0 : Nat) : Int)) := by
                intro t ht
                rw [hP.out.at' t (by rw [List.length_map, hpl]; exact ht), List.getElem_map]
                simp [PV, List.getD, hpl, ht]
              have c1 := cellP p (by omega); have c2 := cellP p1 (by omega); have c3 := cellP p2 (by omega); have c4 := cellP p3 (by omega)
              rw [ha1] at c1; rw [ha2] at c2; rw [ha3] at c3; rw [ha4] at c4
              rw [hp, hp1, hp2, hp3, ha1, ha2, ha3, ha4] at HSJ
              rw [hp]
              have e0 : (p : Int) < 32 := by omega
              have e1 : IntKind.i64.wrap ((p : Int) + 1) = (p1 : Int) := by rw [IntKind.wrap_i64]; omega
              have e2 : IntKind.i64.wrap ((p : Int) + 2) = (p2 : Int) := by rw [IntKind.wrap_i64]; omega
              have e3 : IntKind.i64.wrap ((p : Int) + 3) = (p3 : Int) := by rw [IntKind.wrap_i64]; omega
              have e4 : IntKind.i64.wrap ((p : Int) + 4) = (p4 : Int) := by rw [IntKind.wrap_i64]; omega
              have f1 : (p1 : Int) < 32 := by omega
              have f2 : (p2 : Int) < 32 := by omega
              have f3 : (p3 : Int) < 32 := by omega
              have hcw : (a1 : Int) < 16 := by omega
              have hcw2 : (a2 : Int) < 16 := by omega
              have hcw3 : (a3 : Int) < 16 := by omega
              have hcw4 : (a4 : Int) < 16 := by omega
              have HPP := Lib.hid (And.intro hp (And.intro hp1 (And.intro hp2 (And.intro hp3 hp4))))
              clear hp hp1 hp2 hp3 hp4 ha1 ha2 ha3 ha4 cellP hpl hcl
              go_wp2
              go_quiet (fail)
              go_wp2
              have hi1 : a1 < cur.length := by rw [HCL.out]; exact hi
              have hi2 : a2 < cur.length := by rw [HCL.out]; exact hj'
              have hi3 : a3 < cur.length := by rw [HCL.out]; exact hk'
              have hi4 : a4 < cur.length := by rw [HCL.out]; exact hm'
              have HQM : Hid (quarterM cur a1 a2 a3 a4 = (((cur.set a1 (qM ⟨cur[a1], cur[a2], cur[a3], cur[a4]⟩).a).set a2 (qM ⟨cur[a1], cur[a2], cur[a3], cur[a4]⟩).b).set a3 (qM ⟨cur[a1], cur[a2], cur[a3], cur[a4]⟩).c).set a4 (qM ⟨cur[a1], cur[a2], cur[a3], cur[a4]⟩).d) := by
                show quarterM cur a1 a2 a3 a4 = _
                simp [quarterM, List.getD, hi1, hi2, hi3, hi4]
              clear c1 c2 c3 c4 e0 e1 e2 e3 f1 f2 f3
              refine wp_region_plan none [31, 32, 33, 34, 35, 36, 37] [2, 3, 4, 5, 6, 7, 27, 28, 29] (.take 0 (.take 1 (.pure 2 (.pure 3 (.pure 4 (.pure 5 (.pure 6 (.pure 7 (.take 8 (.take 9 (.take 10 (.take 11 (.take 12 (.take 13 (.take 14 (.take 15 (.take 16 (.take 17 (.take 18 (.take 19 (.take 20 (.take 21 (.take 22 (.take 23 (.one 24 (.take 25 (.take 26 (.pure 27 (.pure 28 (.pure 29 (.take 30 (.tail [31, 32, 33, 34, 35, 36, 37])))))))))))))))))))))))))))))))) (by kernel_rfl) (by kernel_rfl) (fun _ _ dd _ _ h => by cases dd <;> exact h) ?_
              intro W0 hW0
              have hA0 : Blk W0 g (cur.map U32) := by rw [hW0]; exact hA.out.drewN' nq
              have hL0 : Blk W0 g2 (l.map U32) := by rw [hW0]; exact hL.out.drewN' nq
              have hP0 : Blk W0 W6.heap.size (placesL.map PV) := by rw [hW0]; exact hP.out.drewN' nq
              have hb0' : Below w.heap.size w W0 := by rw [hW0]; exact (Below.drewN' hbel.out nq).drew
              clear hW0 hA hL hP hbel
              (refine pl_take (d := 88) (v := ?_) rfl rfl rfl ?_ ?_; rotate_left; (focus ((intro w' hb0 hw'; go_simp) <;> with_reducible rfl)); simp only [Act.put, List.setIfInBounds_toArray, List.set_cons_zero, List.set_cons_succ])
              (refine pl_take (d := 89) (v := ?_) rfl rfl rfl ?_ ?_; rotate_left; (focus ((intro w' hb0 hw'; go_simp) <;> with_reducible rfl)); simp only [Act.put, List.setIfInBounds_toArray, List.set_cons_zero, List.set_cons_succ])
              (refine pl_pure (d := 90) (v := ?_) rfl rfl rfl ?_ ?_; rotate_left; (focus ((intro w'; go_simp) <;> with_reducible rfl)); simp only [Act.put, List.setIfInBounds_toArray, List.set_cons_zero, List.set_cons_succ])
              (refine pl_pure (d := 91) (v := ?_) rfl rfl rfl ?_ ?_; rotate_left; (focus ((intro w'; go_simp) <;> with_reducible rfl)); simp only [Act.put, List.setIfInBounds_toArray, List.set_cons_zero, List.set_cons_succ])
              (refine pl_pure (d := 92) (v := ?_) rfl rfl rfl ?_ ?_; rotate_left; (focus ((intro w'; go_simp) <;> with_reducible rfl)); simp only [Act.put, List.setIfInBounds_toArray, List.set_cons_zero, List.set_cons_succ])
              (refine pl_pure (d := 93) (v := ?_) rfl rfl rfl ?_ ?_; rotate_left; (focus ((intro w'; go_simp) <;> with_reducible rfl)); simp only [Act.put, List.setIfInBounds_toArray, List.set_cons_zero, List.set_cons_succ])
              (refine pl_pure (d := 94) (v := ?_) rfl rfl rfl ?_ ?_; rotate_left; (focus ((intro w'; go_simp) <;> with_reducible rfl)); simp only [Act.put, List.setIfInBounds_toArray, List.set_cons_zero, List.set_cons_succ])
              (refine pl_pure (d := 95) (v := ?_) rfl rfl rfl ?_ ?_; rotate_left; (focus ((intro w'; go_simp) <;> with_reducible rfl)); simp only [Act.put, List.setIfInBounds_toArray, List.set_cons_zero, List.set_cons_succ])
              (refine pl_take (d := 96) (v := ?_) rfl rfl rfl ?_ ?_; rotate_left; (focus ((intro w' hb0 hw'; go_simp) <;> with_reducible rfl)); simp only [Act.put, List.setIfInBounds_toArray, List.set_cons_zero, List.set_cons_succ])
              (refine pl_take (d := 97) (v := ?_) rfl rfl rfl ?_ ?_; rotate_left; (focus ((intro w' hb0 hw'; go_simp) <;> with_reducible rfl)); simp only [Act.put, List.setIfInBounds_toArray, List.set_cons_zero, List.set_cons_succ])
              (refine pl_take (d := 98) (v := ?_) rfl rfl rfl ?_ ?_; rotate_left; (focus ((intro w' hb0 hw'; go_simp) <;> with_reducible rfl)); simp only [Act.put, List.setIfInBounds_toArray, List.set_cons_zero, List.set_cons_succ])
              (refine pl_take (d := 99) (v := ?_) rfl rfl rfl ?_ ?_; rotate_left; (focus ((intro w' hb0 hw'; have hb0' : Below W0.heap.size W0 w' := hb0; have c := (hA0.later hb0').at' a1 (by simp [HCL.out]; omega); rw [List.getElem_map] at c; unfold U32 at c; go_simp) <;> with_reducible rfl)); simp only [Act.put, List.setIfInBounds_toArray, List.set_cons_zero, List.set_cons_succ])
              (refine pl_take (d := 100) (v := ?_) rfl rfl rfl ?_ ?_; rotate_left; (focus ((intro w' hb0 hw'; go_simp) <;> with_reducible rfl)); simp only [Act.put, List.setIfInBounds_toArray, List.set_cons_zero, List.set_cons_succ])
              (refine pl_take (d := 101) (v := ?_) rfl rfl rfl ?_ ?_; rotate_left; (focus ((intro w' hb0 hw'; go_simp) <;> with_reducible rfl)); simp only [Act.put, List.setIfInBounds_toArray, List.set_cons_zero, List.set_cons_succ])
              (refine pl_take (d := 102) (v := ?_) rfl rfl rfl ?_ ?_; rotate_left; (focus ((intro w' hb0 hw'; go_simp) <;> with_reducible rfl)); simp only [Act.put, List.setIfInBounds_toArray, List.set_cons_zero, List.set_cons_succ])
              (refine pl_take (d := 103) (v := ?_) rfl rfl rfl ?_ ?_; rotate_left; (focus ((intro w' hb0 hw'; have hb0' : Below W0.heap.size W0 w' := hb0; have c := (hA0.later hb0').at' a2 (by simp [HCL.out]; omega); rw [List.getElem_map] at c; unfold U32 at c; go_simp) <;> with_reducible rfl)); simp only [Act.put, List.setIfInBounds_toArray, List.set_cons_zero, List.set_cons_succ])
              (refine pl_take (d := 104) (v := ?_) rfl rfl rfl ?_ ?_; rotate_left; (focus ((intro w' hb0 hw'; go_simp) <;> with_reducible rfl)); simp only [Act.put, List.setIfInBounds_toArray, List.set_cons_zero, List.set_cons_succ])
              (refine pl_take (d := 105) (v := ?_) rfl rfl rfl ?_ ?_; rotate_left; (focus ((intro w' hb0 hw'; go_simp) <;> with_reducible rfl)); simp only [Act.put, List.setIfInBounds_toArray, List.set_cons_zero, List.set_cons_succ])
              (refine pl_take (d := 106) (v := ?_) rfl rfl rfl ?_ ?_; rotate_left; (focus ((intro w' hb0 hw'; go_simp) <;> with_reducible rfl)); simp only [Act.put, List.setIfInBounds_toArray, List.set_cons_zero, List.set_cons_succ])
              (refine pl_take (d := 107) (v := ?_) rfl rfl rfl ?_ ?_; rotate_left; (focus ((intro w' hb0 hw'; have hb0' : Below W0.heap.size W0 w' := hb0; have c := (hA0.later hb0').at' a3 (by simp [HCL.out]; omega); rw [List.getElem_map] at c; unfold U32 at c; go_simp) <;> with_reducible rfl)); simp only [Act.put, List.setIfInBounds_toArray, List.set_cons_zero, List.set_cons_succ])
              (refine pl_take (d := 108) (v := ?_) rfl rfl rfl ?_ ?_; rotate_left; (focus ((intro w' hb0 hw'; go_simp) <;> with_reducible rfl)); simp only [Act.put, List.setIfInBounds_toArray, List.set_cons_zero, List.set_cons_succ])
              (refine pl_take (d := 109) (v := ?_) rfl rfl rfl ?_ ?_; rotate_left; (focus ((intro w' hb0 hw'; go_simp) <;> with_reducible rfl)); simp only [Act.put, List.setIfInBounds_toArray, List.set_cons_zero, List.set_cons_succ])
              (refine pl_take (d := 110) (v := ?_) rfl rfl rfl ?_ ?_; rotate_left; (focus ((intro w' hb0 hw'; go_simp) <;> with_reducible rfl)); simp only [Act.put, List.setIfInBounds_toArray, List.set_cons_zero, List.set_cons_succ])
              (refine pl_take (d := 111) (v := ?_) rfl rfl rfl ?_ ?_; rotate_left; (focus ((intro w' hb0 hw'; have hb0' : Below W0.heap.size W0 w' := hb0; have c := (hA0.later hb0').at' a4 (by simp [HCL.out]; omega); rw [List.getElem_map] at c; unfold U32 at c; go_simp) <;> with_reducible rfl)); simp only [Act.put, List.setIfInBounds_toArray, List.set_cons_zero, List.set_cons_succ])
              refine pl_one rfl rfl (fun K hK => ?_)
              go_simp
              refine (refQuarter8 (cur[a1]'hi1) (cur[a2]'hi2) (cur[a3]'hi3) (cur[a4]'hi4) W0).mono ?_
              rintro r w1 ⟨rfl, hw1⟩
              refine hK _ _ (hw1 : Rel none W0 w1) ?_
              have hA1' := hA0.later hw1; have hL1 := hL0.later hw1; have hP1 := hP0.later hw1; have hb1' := below_step hb0' hw1
              clear hK hw1 hA0 hL0 hP0 hb0'
              obtain ⟨q, hq⟩ : ∃ z, qM ⟨cur[a1]'hi1, cur[a2]'hi2, cur[a3]'hi3, cur[a4]'hi4⟩ = z := ⟨_, rfl⟩
              rw [hq]
              have HQ := Lib.hid hq; clear hq
              have hX0 := hA1'; have hX0L := hL1; have hX0P := hP1; have hX0b := hb1'
              clear hA1' hL1 hP1 hb1'
              generalize w1 = V0 at *
              unfold Q4.val U32
              (refine pl_take (d := 87) (v := ?_) rfl rfl rfl ?_ ?_; rotate_left; (focus ((intro w' hb0 hw'; go_simp) <;> with_reducible rfl)); simp only [Act.put, List.setIfInBounds_toArray, List.set_cons_zero, List.set_cons_succ])
              (refine pl_take (d := 113) (v := ?_) rfl rfl rfl ?_ ?_; rotate_left; (focus ((intro w' hb0 hw'; go_simp) <;> with_reducible rfl)); simp only [Act.put, List.setIfInBounds_toArray, List.set_cons_zero, List.set_cons_succ])
              (refine pl_pure (d := 114) (v := ?_) rfl rfl rfl ?_ ?_; rotate_left; (focus ((intro w'; go_simp) <;> with_reducible rfl)); simp only [Act.put, List.setIfInBounds_toArray, List.set_cons_zero, List.set_cons_succ])
              (refine pl_pure (d := 115) (v := ?_) rfl rfl rfl ?_ ?_; rotate_left; (focus ((intro w'; go_simp) <;> with_reducible rfl)); simp only [Act.put, List.setIfInBounds_toArray, List.set_cons_zero, List.set_cons_succ])
              (refine pl_pure (d := 116) (v := ?_) rfl rfl rfl ?_ ?_; rotate_left; (focus ((intro w'; go_simp) <;> with_reducible rfl)); simp only [Act.put, List.setIfInBounds_toArray, List.set_cons_zero, List.set_cons_succ])
              (refine pl_take (d := 117) (v := ?_) rfl rfl rfl ?_ ?_; rotate_left; (focus ((intro w' hb0 hw'; go_simp) <;> with_reducible rfl)); simp only [Act.put, List.setIfInBounds_toArray, List.set_cons_zero, List.set_cons_succ])
              refine pl_tail ?_
              refine tl_do rfl rfl (fun K hK => ?_)
              have c := hX0.at' a1 (by simp [HCL.out]; omega)
              have cz := hX0.froz
              go_simp
              refine hK _ _ ?_
              clear hK c cz
              have hX1 := hX0.set a1 (by simp [HCL.out]; omega) (.int .u32 (q.a.toNat : Int))
              have hX1L := hX0L.setOther (a := ⟨g, a1, none⟩) hg2 (.int .u32 (q.a.toNat : Int))
              have hX1P := hX0P.setOther (a := ⟨g, a1, none⟩) hg3 (.int .u32 (q.a.toNat : Int))
              have hX1b := hX0b.setCell (p := ⟨g, a1, none⟩) HGW.out (.int .u32 (q.a.toNat : Int))
              generalize V0.setCell ⟨g, a1, none⟩ (.int .u32 (q.a.toNat : Int)) = V1 at *
              clear hX0 hX0L hX0P hX0b
              (try simp only [Act.put, List.setIfInBounds_toArray, List.set_cons_zero, List.set_cons_succ])
              refine tl_do rfl rfl (fun K hK => ?_)
              go_simp
              refine hK _ _ ?_
              clear hK
              (try simp only [Act.put, List.setIfInBounds_toArray, List.set_cons_zero, List.set_cons_succ])
              refine tl_do rfl rfl (fun K hK => ?_)
              have c := hX1.at' a2 (by simp [HCL.out]; omega)
              have cz := hX1.froz
              go_simp
              refine hK _ _ ?_
              clear hK c cz
              have hX2 := hX1.set a2 (by simp [HCL.out]; omega) (.int .u32 (q.b.toNat : Int))
              have hX2L := hX1L.setOther (a := ⟨g, a2, none⟩) hg2 (.int .u32 (q.b.toNat : Int))
              have hX2P := hX1P.setOther (a := ⟨g, a2, none⟩) hg3 (.int .u32 (q.b.toNat : Int))
              have hX2b := hX1b.setCell (p := ⟨g, a2, none⟩) HGW.out (.int .u32 (q.b.toNat : Int))
              generalize V1.setCell ⟨g, a2, none⟩ (.int .u32 (q.b.toNat : Int)) = V2 at *
              clear hX1 hX1L hX1P hX1b
              (try simp only [Act.put, List.setIfInBounds_toArray, List.set_cons_zero, List.set_cons_succ])
              refine tl_do rfl rfl (fun K hK => ?_)
              go_simp
              refine hK _ _ ?_
              clear hK
              (try simp only [Act.put, List.setIfInBounds_toArray, List.set_cons_zero, List.set_cons_succ])
              refine tl_do rfl rfl (fun K hK => ?_)
              have c := hX2.at' a3 (by simp [HCL.out]; omega)
              have cz := hX2.froz
              go_simp
              refine hK _ _ ?_
              clear hK c cz
              have hX3 := hX2.set a3 (by simp [HCL.out]; omega) (.int .u32 (q.c.toNat : Int))
              have hX3L := hX2L.setOther (a := ⟨g, a3, none⟩) hg2 (.int .u32 (q.c.toNat : Int))
              have hX3P := hX2P.setOther (a := ⟨g, a3, none⟩) hg3 (.int .u32 (q.c.toNat : Int))
              have hX3b := hX2b.setCell (p := ⟨g, a3, none⟩) HGW.out (.int .u32 (q.c.toNat : Int))
              generalize V2.setCell ⟨g, a3, none⟩ (.int .u32 (q.c.toNat : Int)) = V3 at *
              clear hX2 hX2L hX2P hX2b
              (try simp only [Act.put, List.setIfInBounds_toArray, List.set_cons_zero, List.set_cons_succ])
              refine tl_do rfl rfl (fun K hK => ?_)
              go_simp
              refine hK _ _ ?_
              clear hK
              (try simp only [Act.put, List.setIfInBounds_toArray, List.set_cons_zero, List.set_cons_succ])
              refine tl_do rfl rfl (fun K hK => ?_)
              have c := hX3.at' a4 (by simp [HCL.out]; omega)
              have cz := hX3.froz
              go_simp
              refine hK _ _ ?_
              clear hK c cz
              have hX4 := hX3.set a4 (by simp [HCL.out]; omega) (.int .u32 (q.d.toNat : Int))
              have hX4L := hX3L.setOther (a := ⟨g, a4, none⟩) hg2 (.int .u32 (q.d.toNat : Int))
              have hX4P := hX3P.setOther (a := ⟨g, a4, none⟩) hg3 (.int .u32 (q.d.toNat : Int))
              have hX4b := hX3b.setCell (p := ⟨g, a4, none⟩) HGW.out (.int .u32 (q.d.toNat : Int))
              generalize V3.setCell ⟨g, a4, none⟩ (.int .u32 (q.d.toNat : Int)) = V4 at *
              clear hX3 hX3L hX3P hX3b
              (try simp only [Act.put, List.setIfInBounds_toArray, List.set_cons_zero, List.set_cons_succ])
              refine tl_end ?_
              have hvs : ((((cur.map U32).set a1 (.int .u32 (q.a.toNat : Int))).set a2 (.int .u32 (q.b.toNat : Int))).set a3 (.int .u32 (q.c.toNat : Int))).set a4 (.int .u32 (q.d.toNat : Int)) = (quarterM cur a1 a2 a3 a4).map U32 := by
                rw [HQM.out, HQ.out]
                simp only [List.map_set, U32]
              rw [hvs] at hX4
              have HX4 := Lib.hid hX4; have HX4L := Lib.hid hX4L; have HX4P := Lib.hid hX4P; have HX4b := Lib.hid hX4b
              clear hvs hX4 hX4L hX4P hX4b
              go_wp2
              have hpp := HPP.out
              have hfin : ∃ k' : Nat, k' ≤ 8 ∧ Value.int .i64 (p4 : Int) = Value.int .i64 ((4 * k' : Nat) : Int) ∧ Hid (Blk V4 g ((pIter m k').map U32)) ∧ Hid (Blk V4 g2 (l.map U32)) ∧ Hid (Blk V4 W6.heap.size (placesL.map PV)) ∧ Hid (Below w.heap.size w V4) := by
                refine ⟨j + 1, by omega, by rw [show 4 * (j + 1) = p4 by omega], Lib.hid (Blk.cast HX4.out ?_), HX4L, HX4P, HX4b⟩
                rw [HSJ.out]
              refine ⟨?_, ?measureP⟩
              rotate_left
              · (simp [intOf]) <;> omega
              first
                | exact hfin
                | ((repeat apply Exists.intro); exact ⟨hfin, rfl⟩)
            · obtain rfl : j = 8 := by omega
              have hA' := hA.out
              rw [pIter_round] at hA'
              have HA' := Lib.hid hA'; clear hA'
              go_wp2
              have hfin : ∃ k' : Nat, k' ≤ 10 ∧ Value.int .i64 ((k : Int) + 1) = Value.int .i64 k' ∧ Hid (Blk wr g ((bIter l k').map U32)) ∧ Hid (Blk wr g2 (l.map U32)) ∧ Hid (Blk wr W6.heap.size (placesL.map PV)) ∧ Hid (Below w.heap.size w wr) := by
                refine ⟨k + 1, by omega, by go_num, Lib.hid (Blk.cast HA'.out ?_), hL, hP, hbel⟩
                rw [HS.out]
              refine ⟨?_, ?measureN⟩
              rotate_left
              · (simp [intOf]) <;> omega
              first
                | exact hfin
                | ((repeat apply Exists.intro); exact ⟨hfin, rfl⟩)
        · obtain rfl : k = 10 := by omega
          have HBM : Hid (blockM l = (List.range 64).map (outByte (bIter l 10) l)) := rfl
          have hlm : (bIter l 10).length = 16 := (bIter_length l 10).trans HLL.out
          generalize bIter l 10 = m at *
          have HLM := Lib.hid hlm; clear hlm
          have hs5 := hbel.out.size
          obtain ⟨B9, hB9⟩ : ∃ B, wr.heap.size = B := ⟨_, rfl⟩
          have hga : g < B9 := by rw [← hB9]; exact hA.out.lt
          have hgb : g2 < B9 := by rw [← hB9]; exact hL.out.lt
          have hgc : w.heap.size ≤ B9 := by rw [← hB9]; exact hs5
          have HB9 : Hid (B9 ≤ wr.heap.size) := Nat.le_of_eq hB9.symm
          clear hB9
          go_wp2
          go_loopw [18, 19] (fun v i wr' => ∃ k : Nat, k ≤ 16 ∧ i = .int .i64 k ∧ Hid (B9 ≤ wr'.heap.size) ∧ Hid (Own wr' B9 5 1 v (4 * k) (((List.range (4 * k)).map (outByte m l)).map By)) ∧ Hid (Blk wr' g (m.map U32)) ∧ Hid (Blk wr' g2 (l.map U32)) ∧ Hid (Below w.heap.size w wr')) (fun _ i _ => 16 - (intOf i).toNat)
          case atStart => exact ⟨0, by omega, rfl, HB9, Own.nil _ _ _ _, hA, hL, hbel⟩
          case round =>
            clear hA hL hP hbel HB9
            obtain ⟨k, hk, rfl, hZ, hO, hA, hL, hbel⟩ := hrel
            by_cases hlt : k < 16
            · have hk5 : (k : Int) < 16 := by omega
              have hkm : k < m.length := by rw [HLM.out]; exact hlt
              have hkl : k < l.length := by rw [HLL.out]; exact hlt
              obtain ⟨x1, hx1⟩ : ∃ x, m[k]'hkm = x := ⟨_, rfl⟩
              obtain ⟨x2, hx2⟩ : ∃ x, l[k]'hkl = x := ⟨_, rfl⟩
              have c1 : wr.cell? ⟨g, k, none⟩ = some (.int .u32 (x1.toNat : Int)) := by
                have := hA.out.at' k (by simpa using hkm)
                rw [List.getElem_map] at this
                rw [this, ← hx1]; rfl
              have c2 : wr.cell? ⟨g2, k, none⟩ = some (.int .u32 (x2.toNat : Int)) := by
                have := hL.out.at' k (by simpa using hkl)
                rw [List.getElem_map] at this
                rw [this, ← hx2]; rfl
              have HW : Hid (outWord m l k = x1 + x2) := by
                show m.getD k 0 + l.getD k 0 = _
                rw [← hx1, ← hx2]; simp [List.getD, hkm, hkl]
              have r0 := add_u32 x1 x2
              obtain ⟨x, hx⟩ : ∃ x, x1 + x2 = x := ⟨_, rfl⟩
              rw [hx] at r0 HW
              clear hx hx1 hx2
              go_wp2
              go_quiet (fail)
              go_wp2_with (refine stop_append rfl ?_)
              have hb1 := Below.drewN' hbel.out nq
              have hO1 := hO.out.drewN nq
              have hA1 := hA.out.drewN nq; have hL1 := hL.out.drewN nq
              have hz : B9 ≤ (wr.drewN nq).heap.size := hZ.out
              have hO1a := hO1.alloc (.cells [Value.int .u8 ((x.toNat : Int) % 256), .int .u8 ((x.toNat : Int) / 256 % 256), .int .u8 ((x.toNat : Int) / 65536 % 256), .int .u8 ((x.toNat : Int) / 16777216 % 256)].toArray 5)
              have hz1 : B9 ≤ ((wr.drewN nq).alloc (.cells [Value.int .u8 ((x.toNat : Int) % 256), .int .u8 ((x.toNat : Int) / 256 % 256), .int .u8 ((x.toNat : Int) / 65536 % 256), .int .u8 ((x.toNat : Int) / 16777216 % 256)].toArray 5)).heap.size := by simp; exact Nat.le_succ_of_le hz
              refine ⟨wpList_app el27 rfl rfl (by rfl) hO1a (by rfl) (m := 4) rfl (Cells.new (cs := [Value.int .u8 ((x.toNat : Int) % 256), .int .u8 ((x.toNat : Int) / 256 % 256), .int .u8 ((x.toNat : Int) / 65536 % 256), .int .u8 ((x.toNat : Int) / 16777216 % 256)])) (by simp [Value.oneCell']) (by simp [maxLen]; omega) (by omega) hz1 ?_⟩
              intro v' w2 hO2 hg9
              have hA2 := hO1a.blkKept hg9 (hA1.alloc _) hga
              have hL2 := hO1a.blkKept hg9 (hL1.alloc _) hgb
              have hb2 := hO1a.below hg9 (hb1.alloc hb1.size _) hgc hz1
              have hz2 := Nat.le_trans hz1 hg9.size
              have v0 := outByte_at m l k 0 (by omega); have v1 := outByte_at m l k 1 (by omega); have v2 := outByte_at m l k 2 (by omega); have v3 := outByte_at m l k 3 (by omega)
              rw [HW.out] at v0 v1 v2 v3
              have hout : ((List.range (4 * (k + 1))).map (outByte m l)).map By = ((List.range (4 * k)).map (outByte m l)).map By ++ [Value.int .u8 ((x.toNat : Int) % 256), .int .u8 ((x.toNat : Int) / 256 % 256), .int .u8 ((x.toNat : Int) / 65536 % 256), .int .u8 ((x.toNat : Int) / 16777216 % 256)] := by
                rw [show 4 * (k + 1) = 4 * k + 1 + 1 + 1 + 1 by omega, List.range_succ, List.range_succ, List.range_succ, List.range_succ]
                simp only [List.map_append, List.map_cons, List.map_nil, List.append_assoc, List.cons_append, List.nil_append]
                rw [byte0, byte1, byte2, byte3, ← v0, ← v1, ← v2, ← v3]
                rfl
              have HO2 : Hid (Own w2 B9 5 1 v' (4 * (k + 1)) (((List.range (4 * (k + 1))).map (outByte m l)).map By)) := by
                rw [hout]; exact hO2
              have HZ2 := Lib.hid hz2; have HA2 := Lib.hid hA2; have HL2 := Lib.hid hL2; have HB2 := Lib.hid hb2
              clear hb1 hO1 hA1 hL1 hz hO1a hz1 hO2 hg9 hA2 hL2 hb2 hz2 v0 v1 v2 v3 hout
              go_wp2
              have hfin : ∃ k' : Nat, k' ≤ 16 ∧ Value.int .i64 ((k : Int) + 1) = Value.int .i64 k' ∧ Hid (B9 ≤ w2.heap.size) ∧ Hid (Own w2 B9 5 1 v' (4 * k') (((List.range (4 * k')).map (outByte m l)).map By)) ∧ Hid (Blk w2 g (m.map U32)) ∧ Hid (Blk w2 g2 (l.map U32)) ∧ Hid (Below w.heap.size w w2) :=
                ⟨k + 1, by omega, by go_num, HZ2, HO2, HA2, HL2, HB2⟩
              refine ⟨?_, ?measureQ⟩
              rotate_left
              · (simp [intOf]) <;> omega
              first
                | exact hfin
                | ((repeat apply Exists.intro); exact ⟨hfin, rfl⟩)
            · obtain rfl : k = 16 := by omega
              obtain ⟨o4, c4, rfl, hn4, hm4, hc4, -⟩ := hO.out.cells
              have HC4 : Hid (Cells wr o4 ((blockM l).map By)) := by rw [HBM.out]; exact hc4
              have hge : ∀ a, o4 = some a → w.heap.size ≤ a.block := fun a ha => by subst ha; exact Nat.le_trans hgc hO.out.ge
              have hb4 := hbel.out
              clear hO hA hL hbel hZ hc4
              go_wp2
              refine bodyPost_ret (v := .tuple #[.slice o4 64 c4, .int .i64 0]) (by simp [results, Try.results11, go_sem]) rfl ⟨o4, 64, c4, rfl, ⟨by simp [blockM_length], ?_⟩, hn4, hm4, hge, hb4⟩
              rw [HFL.out]; exact HC4.out
end Go.Proofs.Ytliemmdadfpdjaa
