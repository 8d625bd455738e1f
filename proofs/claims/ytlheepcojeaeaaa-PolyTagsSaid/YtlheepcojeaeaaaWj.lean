/-
  Walks: tags.
-/
import Derived.Test.YtlheepcojeaeaaaWd
import Derived.Test.YtlheepcojeaeaaaWe
import Derived.Test.YtlheepcojeaeaaaWf
import Derived.Test.YtlheepcojeaeaaaWg
import Derived.Test.YtlheepcojeaeaaaWh
import Derived.Test.YtlheepcojeaeaaaWi
import Derived.Test.YtlheepcojeaeaaaPlan
namespace Go.Proofs.Ytlheepcojeaeaaa
open Go.RowKit Go.Proofs.Ytlheepcojeaeaaa.Plan Go.Proofs.Ytlheepcojeaeaaa.Eager
set_option maxHeartbeats 1000000
set_option linter.unusedVariables false
set_option linter.unusedSimpArgs false

def addM (a b : N5) : N5 := ⟨a.a + b.a, a.b + b.b, a.c + b.c, a.d + b.d, a.e + b.e⟩
theorem add16' (a b : N5) (w : World) : Calls Try.prog 16 #[a.val, b.val] w fun r w' => r = .returned (addM a b).val ∧ Below w.heap.size w w' := add16 a b w

/-- a block of the text -/
def partM (msg : List UInt8) (k : Nat) : List UInt8 := (msg.drop (16 * k)).take 16
/-- the number behind so many blocks -/
def tagIter (r : N5) (msg : List UInt8) : Nat → N5
  | 0 => ⟨0, 0, 0, 0, 0⟩
  | k + 1 => timesM (carryM (addM (tagIter r msg k) (readM (partM msg k ++ [1]))).list) r
/-- the tag -/
def tagM (key msg : List UInt8) : List UInt8 := sumM (writeM (leastM (tagIter (readM (clampM key)) msg ((msg.length + 15) / 16)))) (key.drop 16)

/-- how things stand in a round -/
structure TagSt (w wr : World) (g6 g7 : Nat) (r n : N5) (W : World) : Prop where
  r : Blk W g6 [U64 r.a, U64 r.b, U64 r.c, U64 r.d, U64 r.e]
  n : Blk W g7 [U64 n.a, U64 n.b, U64 n.c, U64 n.d, U64 n.e]
  b : Below w.heap.size w W
  z : wr.heap.size ≤ W.heap.size
  l6 : g6 < wr.heap.size
  l7 : g7 < wr.heap.size
  lw : w.heap.size ≤ wr.heap.size

theorem Blk.laterB {w w' : World} {b B : Nat} {cs : List Value} (h : Blk w b cs) (hB : b < B) (hb : Below B w w') : Blk w' b cs := by
  have e := hb.block b hB
  exact ⟨Nat.lt_of_lt_of_le h.lt hb.size, fun i hi => (World.cell?_of_block e).trans (h.cell i hi), fun i => (World.frozen?_of_block e).trans (h.froz i)⟩

theorem Cells.drop {w : World} {b o : Nat} {l : List Value} (h : Cells w (some ⟨b, o, none⟩) l) (n : Nat) : Cells w (some ⟨b, o + n, none⟩) (l.drop n) := by
  intro i hi
  rw [List.length_drop] at hi
  obtain ⟨b', o', e, hc⟩ := h (n + i) (by omega)
  simp at e
  obtain ⟨rfl, rfl⟩ := e
  refine ⟨b, o + n, rfl, ?_⟩
  rw [Nat.add_assoc, hc, List.getElem?_drop]

theorem TagSt.later {w wr : World} {g6 g7 : Nat} {r n : N5} {W W' : World} (h : TagSt w wr g6 g7 r n W) (hb : Below wr.heap.size W W') : TagSt w wr g6 g7 r n W' :=
  ⟨h.r.laterB h.l6 hb, h.n.laterB h.l7 hb, h.b.trans (hb.mono h.lw), Nat.le_trans h.z hb.size, h.l6, h.l7, h.lw⟩

def TagOut (w : World) (l : List UInt8) (e : Ending) (w' : World) : Prop :=
  ∃ g, e = .returned (.tuple #[.slice (some ⟨g, 0, none⟩) 16 16, .int .i64 0]) ∧ w.heap.size ≤ g ∧ Blk w' g (l.map By) ∧ Below w.heap.size w w'

theorem tag7_bad (key : List UInt8) (vm : Value) (w : World) (ok : Option Addr) (n c : Nat) (hk : Reads w ok n key) (hl : ¬ key.length = 32) :
    Calls Try.prog 7 #[.slice ok n c, vm] w fun r w' => r = .returned (.tuple #[.slice none 0 0, .int .i64 2]) ∧ w' = w := by
  obtain rfl : n = key.length := hk.len
  have hl' : ¬ (key.length : Int) = 32 := by omega
  clear hk
  go_enter Try.func7, Try.ntmps7
  go_wp2
  refine bodyPost_ret (v := .tuple #[.slice none 0 0, .int .i64 2]) (by simp [results, Try.results7, go_sem]) rfl ⟨rfl, rfl⟩

theorem tag7 (key msg : List UInt8) (w : World) (ok om : Option Addr) (nk ck nm cm : Nat) (hk : Reads w ok nk key) (hm : Reads w om nm msg) (hl : key.length = 32) (hck : nk ≤ ck) (hckm : ck ≤ maxLen) (hcm : nm ≤ cm) (hcmm : cm ≤ maxLen) (hmx : msg.length ≤ 1000000) :
    Calls Try.prog 7 #[.slice ok nk ck, .slice om nm cm] w (TagOut w (tagM key msg)) := by
  obtain rfl : nk = 32 := hk.len.trans hl
  obtain rfl : nm = msg.length := hm.len
  have HK := Lib.hid hk; have HM := Lib.hid hm; have HL := Lib.hid hl; have HCM := Lib.hid hcmm; have HCK := Lib.hid hckm
  clear hk hm hl hcmm hckm
  have HT : Hid (tagM key msg = sumM (writeM (leastM (tagIter (readM (clampM key)) msg ((msg.length + 15) / 16)))) (key.drop 16)) := rfl
  go_enter Try.func7, Try.ntmps7
  go_wp2_with fail
  refine (clamp11 key w ok 32 ck HK.out (by rw [HL.out]; omega) hck HCK.out).mono ?_
  rintro r w1 ⟨oc, cc, rfl, hcc, hb1⟩
  go_wp2_with fail
  have hlc : (clampM key).length = 16 := by simp [clampM]
  refine (read13 (clampM key) w1 oc _ cc ⟨by simp, hcc⟩ (by omega)).mono ?_
  rintro r w2 ⟨rfl, hb2⟩
  have hb12 := below_step hb1 hb2
  clear hb1 hb2 hcc hlc
  generalize readM (clampM key) = r at *
  unfold N5.val
  go_wp2_with fail
  have HB12 := Lib.hid hb12; clear hb12
  go_loopw [8] (fun i wr => ∃ k : Nat, k ≤ (msg.length + 15) / 16 ∧ i = .int .i64 (16 * k : Nat) ∧ Hid (Blk wr w2.heap.size [U64 r.a, U64 r.b, U64 r.c, U64 r.d, U64 r.e]) ∧ Hid (Blk wr (w2.heap.size + 1) [U64 (tagIter r msg k).a, U64 (tagIter r msg k).b, U64 (tagIter r msg k).c, U64 (tagIter r msg k).d, U64 (tagIter r msg k).e]) ∧ Hid (Below w.heap.size w wr)) (fun i _ => msg.length + 16 - (intOf i).toNat)
  case atStart =>
    have hb12 := HB12.out
    have hsz := hb12.size
    refine ⟨0, by omega, rfl, ?_, ?_, by (with_reducible try refine Lib.hid ?_); (repeat (with_reducible first | assumption | exact Below.refl _ _ | apply Below.drew | apply Below.drewN' | apply Below.setCell | apply Below.alloc)) <;> (try simp [length_fillTo, length_turnTo]) <;> (try omega)⟩
    · exact Lib.hid (Blk.cast (by (with_reducible try refine Lib.hid ?_); (repeat (with_reducible first | assumption | (apply Blk.new' <;> (simp; done)) | apply Blk.drew | apply Blk.drewN | apply Blk.alloc | apply Blk.set | apply Blk.setOther)) <;> (try simp [length_fillTo, length_turnTo]) <;> (try omega)) (by rfl))
    · exact Lib.hid (Blk.cast (by (with_reducible try refine Lib.hid ?_); (repeat (with_reducible first | assumption | (apply Blk.new' <;> (simp; done)) | apply Blk.drew | apply Blk.drewN | apply Blk.alloc | apply Blk.set | apply Blk.setOther)) <;> (try simp [length_fillTo, length_turnTo]) <;> (try omega)) (by rfl))
  case round =>
    obtain ⟨k, hk, rfl, hR, hN, hbel⟩ := hrel
    by_cases hlt : 16 * k < msg.length
    · have hlt' : ((16 * k : Nat) : Int) < (msg.length : Int) := by omega
      have HI : Hid (tagIter r msg (k + 1) = timesM (carryM (addM (tagIter r msg k) (readM (partM msg k ++ [1]))).list) r) := rfl
      generalize tagIter r msg k = n at *
      obtain ⟨m, hm⟩ : ∃ m, timesM (carryM (addM n (readM (partM msg k ++ [1]))).list) r = m := ⟨_, rfl⟩
      have hmm := Lib.hid hm; clear hm
      obtain ⟨p, hp⟩ : ∃ p, 16 * k = p := ⟨_, rfl⟩
      have hpl : (partM msg k).length = min 16 (msg.length - p) := by rw [← hp]; simp [partM]
      obtain ⟨b, o, rfl, hbo, -⟩ := HM.out.cells.bytes (i := p) (by omega)
      have HP : Hid (Cells w (some ⟨b, o + p, none⟩) ((partM msg k).map By)) := by
        rw [← hp]
        have := ((HM.out.cells).drop (16 * k)).take 16
        rw [← List.map_drop, ← List.map_take] at this
        exact this
      have HPL : Hid ((partM msg k).length = min 16 (msg.length - p)) := hpl
      obtain ⟨M, hM⟩ : ∃ M, (partM msg k).length = M := ⟨_, rfl⟩
      rw [hM] at hpl
      rw [hp] at hlt hlt'
      have HPE := Lib.hid hp
      have hMs : M ≤ 16 := by omega
      have HMM := Lib.hid hM
      rw [hp]
      have hpc : ¬ cm = p := by omega
      have hpc' : (p : Int) ≤ (msg.length : Int) := by omega
      by_cases he : p + 16 ≤ msg.length
      · obtain ⟨e, hee⟩ : ∃ e, p + 16 = e := ⟨_, rfl⟩
        have hlm : (msg.length : Int) ≤ 1000000 := by omega
        have r0 : IntKind.i64.wrap ((p : Int) + 16) = (e : Int) := by rw [IntKind.wrap_i64]; omega
        have r1 : (e : Int) ≤ (msg.length : Int) := by omega
        have r2 : e - p = M := by omega
        have r3 : (e : Int) ≤ (cm : Int) := by omega
        have r4 : (p : Int) ≤ (e : Int) := by omega
        have HEE := Lib.hid hee
        clear hp hM hpl hee he hk
        go_wp2
        refine wp_region_plan (some wr.heap.size) 11 (.take 0 (.take 2 (.take 9 (.two 1 (.two 3 (.one 4 (.one 5 (.one 6 (.one 7 (.one 8 (.one 10 (.last 11))))))) 4 (.one 3 (.one 5 (.one 6 (.one 7 (.one 8 (.one 10 (.last 11)))))))) 4 (.one 1 (.one 3 (.one 5 (.one 6 (.one 7 (.one 8 (.one 10 (.last 11)))))))))))) (by kernel_rfl) (by kernel_rfl) (fun _ _ dd _ _ h => by cases dd <;> exact h) ?_
        intro W0 hW0
        have stW0 : TagSt w wr w2.heap.size (w2.heap.size + 1) r n W0 := by
          rw [hW0]
          exact ⟨hR.out.drew, hN.out.drew, hbel.out.drew, Nat.le_refl _, hR.out.lt, hN.out.lt, hbel.out.size⟩
        clear hR hN hbel hW0
        (refine pl_take (d := 30) (v := ?_) rfl rfl rfl ?_ ?_; rotate_left; (focus ((intro w' hb0 hw'; have hb0' : Below wr.heap.size W0 w' := hb0; have stw := stW0.later hb0'; have hcc := stw.n; have e0 := hcc.at' 0 (by simp); have e1 := hcc.at' 1 (by simp); have e2 := hcc.at' 2 (by simp); have e3 := hcc.at' 3 (by simp); have e4 := hcc.at' 4 (by simp); have ez := hcc.froz; have el := hcc.lt; simp only [List.map_cons, List.map_nil, List.getElem_cons_zero, List.getElem_cons_succ, U64] at e0 e1 e2 e3 e4; go_simp) <;> with_reducible rfl)); simp only [Act.put, List.setIfInBounds_toArray, List.set_cons_zero, List.set_cons_succ])
        (refine pl_take (d := 32) (v := ?_) rfl rfl rfl ?_ ?_; rotate_left; (focus ((intro w' hb0 hw'; go_simp) <;> with_reducible rfl)); simp only [Act.put, List.setIfInBounds_toArray, List.set_cons_zero, List.set_cons_succ])
        (refine pl_take (d := 39) (v := ?_) rfl rfl rfl ?_ ?_; rotate_left; (focus ((intro w' hb0 hw'; have hb0' : Below wr.heap.size W0 w' := hb0; have stw := stW0.later hb0'; have hcc := stw.r; have e0 := hcc.at' 0 (by simp); have e1 := hcc.at' 1 (by simp); have e2 := hcc.at' 2 (by simp); have e3 := hcc.at' 3 (by simp); have e4 := hcc.at' 4 (by simp); have ez := hcc.froz; have el := hcc.lt; simp only [List.map_cons, List.map_nil, List.getElem_cons_zero, List.getElem_cons_succ, U64] at e0 e1 e2 e3 e4; go_simp) <;> with_reducible rfl)); simp only [Act.put, List.setIfInBounds_toArray, List.set_cons_zero, List.set_cons_succ])
        refine pl_two rfl rfl rfl rfl (fun K hK => ?_) (fun K hK => ?_)
        · go_simp
          have hzW0 : wr.heap.size ≤ W0.heap.size := stW0.z
          have hbW0 : Below wr.heap.size W0 (W0.alloc (.cells #[] 5)) := (Below.refl _ _).alloc hzW0 _
          have h31 := Own.lit W0 [] 5 1 0 (by simp [maxLen]) rfl W0.heap.size (Nat.le_refl _)
          have hle31 : wr.heap.size ≤ W0.heap.size := hzW0
          refine hK _ _ hbW0 ?_
          have stW1 := stW0.later hbW0
          
          have hs31 : W0.heap.size ≤ (W0.alloc (.cells #[] 5)).heap.size := by simp
          clear hbW0 hK
          generalize W0.alloc (.cells #[] 5) = W1 at *
          refine pl_two rfl rfl rfl rfl (fun K hK => ?_) (fun K hK => ?_)
          · refine wp_app el23 (by rfl) (by rfl) h31 (by rfl) (m := M) (by simp [HMM.out]) (HP.out.below stW1.b (Nat.le_refl _)) (By_oneCell _) (by simp [maxLen]; omega) (by omega) hs31 ?_
            intro v33 W13 h33 hg33
            rw [Nat.zero_add] at h33
            have hbb : Below wr.heap.size W1 W13 := h31.below hg33 (Below.refl _ _) hle31 hs31
            have hs33 : W0.heap.size ≤ W13.heap.size := Nat.le_trans hs31 hg33.size
            have stW13 := stW1.later hbb
            refine hK _ _ hbb ?_
            clear hK
            refine pl_one rfl rfl (fun K hK => ?_)
            go_simp
            have hzW13 : wr.heap.size ≤ W13.heap.size := stW13.z
            have hbW13 : Below wr.heap.size W13 (W13.alloc (.cells #[.int .u8 1] 5)) := (Below.refl _ _).alloc hzW13 _
            have hB1 : Blk (W13.alloc (.cells #[.int .u8 1] 5)) W13.heap.size [By 1] := Blk.new' (cs := [By 1]) rfl
            refine hK _ _ hbW13 ?_
            have stW134 := stW13.later hbW13
            have h33' := h33.alloc (.cells #[.int .u8 1] 5)
            have hs33' : W0.heap.size ≤ (W13.alloc (.cells #[.int .u8 1] 5)).heap.size := by simp; omega
            clear hbW13 hK
            generalize W13.alloc (.cells #[.int .u8 1] 5) = W134 at *
            refine pl_one rfl rfl (fun K hK => ?_)
            refine wp_app el23 (by rfl) (by rfl) h33' (by rfl) (m := 1) rfl hB1.cells (By_oneCell [1]) (by simp [maxLen]; omega) (by omega) hs33' ?_
            intro v35 W5 h35 hg35
            have hbb : Below wr.heap.size W134 W5 := h33'.below hg35 (Below.refl _ _) hle31 hs33'
            have stW5 := stW134.later hbb
            refine hK _ _ hbb ?_
            clear hK hbb hg35
            obtain ⟨o35, c35, rfl, hn35, hm35, hc35, -⟩ := h35.cells
            have hr35 : Reads W5 o35 (M + 1) (partM msg k ++ [1]) := ⟨by simp [HMM.out], by simpa using hc35⟩
            refine pl_one rfl rfl (fun K hK => ?_)
            go_simp
            refine (read13 (partM msg k ++ [1]) W5 o35 _ c35 hr35 (by simp [HMM.out]; omega)).mono ?_
            rintro r W6 ⟨rfl, hb6⟩
            have hbb : Below wr.heap.size W5 W6 := hb6.mono stW5.z
            have stW6 := stW5.later hbb
            refine hK _ _ hbb ?_
            clear hK hbb hb6
            refine pl_one rfl rfl (fun K hK => ?_)
            go_simp
            refine (add16' n (readM (partM msg k ++ [1])) W6).mono ?_
            rintro r W7 ⟨rfl, hbx⟩
            have hbb : Below wr.heap.size W6 W7 := hbx.mono stW6.z
            have stW7 := stW6.later hbb
            refine hK _ _ hbb ?_
            clear hK hbb hbx
            refine pl_one rfl rfl (fun K hK => ?_)
            go_simp
            refine (carry15' (addM n (readM (partM msg k ++ [1]))) W7).mono ?_
            rintro r W8 ⟨rfl, hbx⟩
            have hbb : Below wr.heap.size W7 W8 := hbx.mono stW7.z
            have stW8 := stW7.later hbb
            refine hK _ _ hbb ?_
            clear hK hbb hbx
            refine pl_one rfl rfl (fun K hK => ?_)
            go_simp
            refine (times14 (carryM (addM n (readM (partM msg k ++ [1]))).list) r W8).mono ?_
            rintro r W9 ⟨rfl, hbx⟩
            have hbb : Below wr.heap.size W8 W9 := hbx.mono stW8.z
            have stW9 := stW8.later hbb
            refine hK _ _ hbb ?_
            clear hK hbb hbx
            refine pl_last rfl rfl (fun K hK => ?_)
            have hn9 := stW9.n
            rw [show (timesM (carryM (addM n (readM (partM msg k ++ [1]))).list) r).val = Value.agg #[.int .u64 (m.a.toNat : Int), .int .u64 (m.b.toNat : Int), .int .u64 (m.c.toNat : Int), .int .u64 (m.d.toNat : Int), .int .u64 (m.e.toNat : Int)] from by rw [hmm.out]; rfl]
            have e0 := hn9.at' 0 (by simp); have e1 := hn9.at' 1 (by simp); have e2 := hn9.at' 2 (by simp); have e3 := hn9.at' 3 (by simp); have e4 := hn9.at' 4 (by simp); have ez := hn9.froz; have el := hn9.lt; simp only [List.map_cons, List.map_nil, List.getElem_cons_zero, List.getElem_cons_succ, U64] at e0 e1 e2 e3 e4
            go_simp
            refine hK _ _ ?_
            clear hK e0 e1 e2 e3 e4 ez el
            go_wp2
            go_roundw
            case measure =>
              have hee := HEE.out
              (simp [intOf]) <;> omega
            case rel =>
              have hr9 := stW9.r; have hb9 := stW9.b; have hlw := stW9.lw; have hl6 := stW9.l6; have hl7 := stW9.l7
              have hpe := HPE.out; have hs2 := HB12.out.size; have hee := HEE.out
              refine ⟨k + 1, by omega, by rw [show 16 * (k + 1) = e by omega], ?_, ?_, ?_⟩
              · exact Lib.hid (Blk.cast (by (with_reducible try refine Lib.hid ?_); (repeat (with_reducible first | assumption | (apply Blk.new' <;> (simp; done)) | apply Blk.drew | apply Blk.drewN | apply Blk.alloc | apply Blk.set | apply Blk.setOther)) <;> (try simp [length_fillTo, length_turnTo]) <;> (try omega)) (by rfl))
              · refine Lib.hid (Blk.cast (by (with_reducible try refine Lib.hid ?_); (repeat (with_reducible first | assumption | (apply Blk.new' <;> (simp; done)) | apply Blk.drew | apply Blk.drewN | apply Blk.alloc | apply Blk.set | apply Blk.setOther)) <;> (try simp [length_fillTo, length_turnTo]) <;> (try omega)) ?_)
                rw [HI.out, hmm.out]; rfl
              · (with_reducible try refine Lib.hid ?_); (repeat (with_reducible first | assumption | exact Below.refl _ _ | apply Below.drew | apply Below.drewN' | apply Below.setCell | apply Below.alloc)) <;> (try simp [length_fillTo, length_turnTo]) <;> (try omega)
          · go_simp
            have hzW1 : wr.heap.size ≤ W1.heap.size := stW1.z
            have hbW1 : Below wr.heap.size W1 (W1.alloc (.cells #[.int .u8 1] 5)) := (Below.refl _ _).alloc hzW1 _
            have hB1 : Blk (W1.alloc (.cells #[.int .u8 1] 5)) W1.heap.size [By 1] := Blk.new' (cs := [By 1]) rfl
            refine hK _ _ hbW1 ?_
            have stW14 := stW1.later hbW1
            have h31' := h31.alloc (.cells #[.int .u8 1] 5)
            have hs31' : W0.heap.size ≤ (W1.alloc (.cells #[.int .u8 1] 5)).heap.size := by simp; omega
            have hne : W0.heap.size ≠ W1.heap.size := by have := (h31.row.lt W0.heap.size rfl).2; omega
            clear hbW1 hK
            generalize W1.alloc (.cells #[.int .u8 1] 5) = W14 at *
            refine pl_one rfl rfl (fun K hK => ?_)
            refine wp_app el23 (by rfl) (by rfl) h31' (by rfl) (m := M) (by simp [HMM.out]) (HP.out.below stW14.b (Nat.le_refl _)) (By_oneCell _) (by simp [maxLen]; omega) (by omega) hs31' ?_
            intro v33 W143 h33 hg33
            rw [Nat.zero_add] at h33
            have hbb : Below wr.heap.size W14 W143 := h31'.below hg33 (Below.refl _ _) hle31 hs31'
            have hs33 : W0.heap.size ≤ W143.heap.size := Nat.le_trans hs31' hg33.size
            have stW143 := stW14.later hbb
            refine hK _ _ hbb ?_
            have hB2 := hB1.grown hg33 (by simp [Value.ownBlock]; exact hne)
            have h33' := h33
            have hs33' := hs33
            clear hK
            refine pl_one rfl rfl (fun K hK => ?_)
            refine wp_app el23 (by rfl) (by rfl) h33' (by rfl) (m := 1) rfl hB2.cells (By_oneCell [1]) (by simp [maxLen]; omega) (by omega) hs33' ?_
            intro v35 W5 h35 hg35
            have hbb : Below wr.heap.size W143 W5 := h33'.below hg35 (Below.refl _ _) hle31 hs33'
            have stW5 := stW143.later hbb
            refine hK _ _ hbb ?_
            clear hK hbb hg35
            obtain ⟨o35, c35, rfl, hn35, hm35, hc35, -⟩ := h35.cells
            have hr35 : Reads W5 o35 (M + 1) (partM msg k ++ [1]) := ⟨by simp [HMM.out], by simpa using hc35⟩
            refine pl_one rfl rfl (fun K hK => ?_)
            go_simp
            refine (read13 (partM msg k ++ [1]) W5 o35 _ c35 hr35 (by simp [HMM.out]; omega)).mono ?_
            rintro r W6 ⟨rfl, hb6⟩
            have hbb : Below wr.heap.size W5 W6 := hb6.mono stW5.z
            have stW6 := stW5.later hbb
            refine hK _ _ hbb ?_
            clear hK hbb hb6
            refine pl_one rfl rfl (fun K hK => ?_)
            go_simp
            refine (add16' n (readM (partM msg k ++ [1])) W6).mono ?_
            rintro r W7 ⟨rfl, hbx⟩
            have hbb : Below wr.heap.size W6 W7 := hbx.mono stW6.z
            have stW7 := stW6.later hbb
            refine hK _ _ hbb ?_
            clear hK hbb hbx
            refine pl_one rfl rfl (fun K hK => ?_)
            go_simp
            refine (carry15' (addM n (readM (partM msg k ++ [1]))) W7).mono ?_
            rintro r W8 ⟨rfl, hbx⟩
            have hbb : Below wr.heap.size W7 W8 := hbx.mono stW7.z
            have stW8 := stW7.later hbb
            refine hK _ _ hbb ?_
            clear hK hbb hbx
            refine pl_one rfl rfl (fun K hK => ?_)
            go_simp
            refine (times14 (carryM (addM n (readM (partM msg k ++ [1]))).list) r W8).mono ?_
            rintro r W9 ⟨rfl, hbx⟩
            have hbb : Below wr.heap.size W8 W9 := hbx.mono stW8.z
            have stW9 := stW8.later hbb
            refine hK _ _ hbb ?_
            clear hK hbb hbx
            refine pl_last rfl rfl (fun K hK => ?_)
            have hn9 := stW9.n
            rw [show (timesM (carryM (addM n (readM (partM msg k ++ [1]))).list) r).val = Value.agg #[.int .u64 (m.a.toNat : Int), .int .u64 (m.b.toNat : Int), .int .u64 (m.c.toNat : Int), .int .u64 (m.d.toNat : Int), .int .u64 (m.e.toNat : Int)] from by rw [hmm.out]; rfl]
            have e0 := hn9.at' 0 (by simp); have e1 := hn9.at' 1 (by simp); have e2 := hn9.at' 2 (by simp); have e3 := hn9.at' 3 (by simp); have e4 := hn9.at' 4 (by simp); have ez := hn9.froz; have el := hn9.lt; simp only [List.map_cons, List.map_nil, List.getElem_cons_zero, List.getElem_cons_succ, U64] at e0 e1 e2 e3 e4
            go_simp
            refine hK _ _ ?_
            clear hK e0 e1 e2 e3 e4 ez el
            go_wp2
            go_roundw
            case measure =>
              have hee := HEE.out
              (simp [intOf]) <;> omega
            case rel =>
              have hr9 := stW9.r; have hb9 := stW9.b; have hlw := stW9.lw; have hl6 := stW9.l6; have hl7 := stW9.l7
              have hpe := HPE.out; have hs2 := HB12.out.size; have hee := HEE.out
              refine ⟨k + 1, by omega, by rw [show 16 * (k + 1) = e by omega], ?_, ?_, ?_⟩
              · exact Lib.hid (Blk.cast (by (with_reducible try refine Lib.hid ?_); (repeat (with_reducible first | assumption | (apply Blk.new' <;> (simp; done)) | apply Blk.drew | apply Blk.drewN | apply Blk.alloc | apply Blk.set | apply Blk.setOther)) <;> (try simp [length_fillTo, length_turnTo]) <;> (try omega)) (by rfl))
              · refine Lib.hid (Blk.cast (by (with_reducible try refine Lib.hid ?_); (repeat (with_reducible first | assumption | (apply Blk.new' <;> (simp; done)) | apply Blk.drew | apply Blk.drewN | apply Blk.alloc | apply Blk.set | apply Blk.setOther)) <;> (try simp [length_fillTo, length_turnTo]) <;> (try omega)) ?_)
                rw [HI.out, hmm.out]; rfl
              · (with_reducible try refine Lib.hid ?_); (repeat (with_reducible first | assumption | exact Below.refl _ _ | apply Below.drew | apply Below.drewN' | apply Below.setCell | apply Below.alloc)) <;> (try simp [length_fillTo, length_turnTo]) <;> (try omega)
        · go_simp
          have hzW0 : wr.heap.size ≤ W0.heap.size := stW0.z
          have hbW0 : Below wr.heap.size W0 (W0.alloc (.cells #[.int .u8 1] 5)) := (Below.refl _ _).alloc hzW0 _
          have hB1 : Blk (W0.alloc (.cells #[.int .u8 1] 5)) W0.heap.size [By 1] := Blk.new' (cs := [By 1]) rfl
          refine hK _ _ hbW0 ?_
          have stW4 := stW0.later hbW0
          
          clear hbW0 hK
          generalize W0.alloc (.cells #[.int .u8 1] 5) = W4 at *
          obtain ⟨b1, hb1⟩ : ∃ b, W0.heap.size = b := ⟨_, rfl⟩
          rw [hb1] at hB1
          refine pl_one rfl rfl (fun K hK => ?_)
          go_simp
          have hzW4 : wr.heap.size ≤ W4.heap.size := stW4.z
          have hbW4 : Below wr.heap.size W4 (W4.alloc (.cells #[] 5)) := (Below.refl _ _).alloc hzW4 _
          have h31 := Own.lit W4 [] 5 1 0 (by simp [maxLen]) rfl W4.heap.size (Nat.le_refl _)
          have hle31 : wr.heap.size ≤ W4.heap.size := hzW4
          refine hK _ _ hbW4 ?_
          have stW41 := stW4.later hbW4
          have hB1' := hB1.alloc (.cells #[] 5)
          have hne : W4.heap.size ≠ b1 := by have := hB1.lt; omega
          have hs31 : W4.heap.size ≤ (W4.alloc (.cells #[] 5)).heap.size := by simp
          clear hbW4 hK
          generalize W4.alloc (.cells #[] 5) = W41 at *
          refine pl_one rfl rfl (fun K hK => ?_)
          refine wp_app el23 (by rfl) (by rfl) h31 (by rfl) (m := M) (by simp [HMM.out]) (HP.out.below stW41.b (Nat.le_refl _)) (By_oneCell _) (by simp [maxLen]; omega) (by omega) hs31 ?_
          intro v33 W413 h33 hg33
          rw [Nat.zero_add] at h33
          have hbb : Below wr.heap.size W41 W413 := h31.below hg33 (Below.refl _ _) hle31 hs31
          have hs33 : W4.heap.size ≤ W413.heap.size := Nat.le_trans hs31 hg33.size
          have stW413 := stW41.later hbb
          refine hK _ _ hbb ?_
          have hB2 := hB1'.grown hg33 (by simp [Value.ownBlock]; exact hne)
          have h33' := h33
          have hs33' := hs33
          clear hK
          refine pl_one rfl rfl (fun K hK => ?_)
          refine wp_app el23 (by rfl) (by rfl) h33' (by rfl) (m := 1) rfl hB2.cells (By_oneCell [1]) (by simp [maxLen]; omega) (by omega) hs33' ?_
          intro v35 W5 h35 hg35
          have hbb : Below wr.heap.size W413 W5 := h33'.below hg35 (Below.refl _ _) hle31 hs33'
          have stW5 := stW413.later hbb
          refine hK _ _ hbb ?_
          clear hK hbb hg35
          obtain ⟨o35, c35, rfl, hn35, hm35, hc35, -⟩ := h35.cells
          have hr35 : Reads W5 o35 (M + 1) (partM msg k ++ [1]) := ⟨by simp [HMM.out], by simpa using hc35⟩
          refine pl_one rfl rfl (fun K hK => ?_)
          go_simp
          refine (read13 (partM msg k ++ [1]) W5 o35 _ c35 hr35 (by simp [HMM.out]; omega)).mono ?_
          rintro r W6 ⟨rfl, hb6⟩
          have hbb : Below wr.heap.size W5 W6 := hb6.mono stW5.z
          have stW6 := stW5.later hbb
          refine hK _ _ hbb ?_
          clear hK hbb hb6
          refine pl_one rfl rfl (fun K hK => ?_)
          go_simp
          refine (add16' n (readM (partM msg k ++ [1])) W6).mono ?_
          rintro r W7 ⟨rfl, hbx⟩
          have hbb : Below wr.heap.size W6 W7 := hbx.mono stW6.z
          have stW7 := stW6.later hbb
          refine hK _ _ hbb ?_
          clear hK hbb hbx
          refine pl_one rfl rfl (fun K hK => ?_)
          go_simp
          refine (carry15' (addM n (readM (partM msg k ++ [1]))) W7).mono ?_
          rintro r W8 ⟨rfl, hbx⟩
          have hbb : Below wr.heap.size W7 W8 := hbx.mono stW7.z
          have stW8 := stW7.later hbb
          refine hK _ _ hbb ?_
          clear hK hbb hbx
          refine pl_one rfl rfl (fun K hK => ?_)
          go_simp
          refine (times14 (carryM (addM n (readM (partM msg k ++ [1]))).list) r W8).mono ?_
          rintro r W9 ⟨rfl, hbx⟩
          have hbb : Below wr.heap.size W8 W9 := hbx.mono stW8.z
          have stW9 := stW8.later hbb
          refine hK _ _ hbb ?_
          clear hK hbb hbx
          refine pl_last rfl rfl (fun K hK => ?_)
          have hn9 := stW9.n
          rw [show (timesM (carryM (addM n (readM (partM msg k ++ [1]))).list) r).val = Value.agg #[.int .u64 (m.a.toNat : Int), .int .u64 (m.b.toNat : Int), .int .u64 (m.c.toNat : Int), .int .u64 (m.d.toNat : Int), .int .u64 (m.e.toNat : Int)] from by rw [hmm.out]; rfl]
          have e0 := hn9.at' 0 (by simp); have e1 := hn9.at' 1 (by simp); have e2 := hn9.at' 2 (by simp); have e3 := hn9.at' 3 (by simp); have e4 := hn9.at' 4 (by simp); have ez := hn9.froz; have el := hn9.lt; simp only [List.map_cons, List.map_nil, List.getElem_cons_zero, List.getElem_cons_succ, U64] at e0 e1 e2 e3 e4
          go_simp
          refine hK _ _ ?_
          clear hK e0 e1 e2 e3 e4 ez el
          go_wp2
          go_roundw
          case measure =>
            have hee := HEE.out
            (simp [intOf]) <;> omega
          case rel =>
            have hr9 := stW9.r; have hb9 := stW9.b; have hlw := stW9.lw; have hl6 := stW9.l6; have hl7 := stW9.l7
            have hpe := HPE.out; have hs2 := HB12.out.size; have hee := HEE.out
            refine ⟨k + 1, by omega, by rw [show 16 * (k + 1) = e by omega], ?_, ?_, ?_⟩
            · exact Lib.hid (Blk.cast (by (with_reducible try refine Lib.hid ?_); (repeat (with_reducible first | assumption | (apply Blk.new' <;> (simp; done)) | apply Blk.drew | apply Blk.drewN | apply Blk.alloc | apply Blk.set | apply Blk.setOther)) <;> (try simp [length_fillTo, length_turnTo]) <;> (try omega)) (by rfl))
            · refine Lib.hid (Blk.cast (by (with_reducible try refine Lib.hid ?_); (repeat (with_reducible first | assumption | (apply Blk.new' <;> (simp; done)) | apply Blk.drew | apply Blk.drewN | apply Blk.alloc | apply Blk.set | apply Blk.setOther)) <;> (try simp [length_fillTo, length_turnTo]) <;> (try omega)) ?_)
              rw [HI.out, hmm.out]; rfl
            · (with_reducible try refine Lib.hid ?_); (repeat (with_reducible first | assumption | exact Below.refl _ _ | apply Below.drew | apply Below.drewN' | apply Below.setCell | apply Below.alloc)) <;> (try simp [length_fillTo, length_turnTo]) <;> (try omega)
      · have hlm : (msg.length : Int) ≤ 1000000 := by omega
        obtain ⟨e, hee⟩ : ∃ e, p + 16 = e := ⟨_, rfl⟩
        have r0 : IntKind.i64.wrap ((p : Int) + 16) = (e : Int) := by rw [IntKind.wrap_i64]; omega
        have r1 : ¬ (e : Int) ≤ (msg.length : Int) := by omega
        have r2 : msg.length - p = M := by omega
        have r3 : (msg.length : Int) ≤ (cm : Int) := by omega
        have HEE := Lib.hid hee
        clear hp hM hpl hee he hk
        go_wp2
        refine wp_region_plan (some wr.heap.size) 11 (.take 0 (.take 2 (.take 9 (.two 1 (.two 3 (.one 4 (.one 5 (.one 6 (.one 7 (.one 8 (.one 10 (.last 11))))))) 4 (.one 3 (.one 5 (.one 6 (.one 7 (.one 8 (.one 10 (.last 11)))))))) 4 (.one 1 (.one 3 (.one 5 (.one 6 (.one 7 (.one 8 (.one 10 (.last 11)))))))))))) (by kernel_rfl) (by kernel_rfl) (fun _ _ dd _ _ h => by cases dd <;> exact h) ?_
        intro W0 hW0
        have stW0 : TagSt w wr w2.heap.size (w2.heap.size + 1) r n W0 := by
          rw [hW0]
          exact ⟨hR.out.drew, hN.out.drew, hbel.out.drew, Nat.le_refl _, hR.out.lt, hN.out.lt, hbel.out.size⟩
        clear hR hN hbel hW0
        (refine pl_take (d := 30) (v := ?_) rfl rfl rfl ?_ ?_; rotate_left; (focus ((intro w' hb0 hw'; have hb0' : Below wr.heap.size W0 w' := hb0; have stw := stW0.later hb0'; have hcc := stw.n; have e0 := hcc.at' 0 (by simp); have e1 := hcc.at' 1 (by simp); have e2 := hcc.at' 2 (by simp); have e3 := hcc.at' 3 (by simp); have e4 := hcc.at' 4 (by simp); have ez := hcc.froz; have el := hcc.lt; simp only [List.map_cons, List.map_nil, List.getElem_cons_zero, List.getElem_cons_succ, U64] at e0 e1 e2 e3 e4; go_simp) <;> with_reducible rfl)); simp only [Act.put, List.setIfInBounds_toArray, List.set_cons_zero, List.set_cons_succ])
        (refine pl_take (d := 32) (v := ?_) rfl rfl rfl ?_ ?_; rotate_left; (focus ((intro w' hb0 hw'; go_simp) <;> with_reducible rfl)); simp only [Act.put, List.setIfInBounds_toArray, List.set_cons_zero, List.set_cons_succ])
        (refine pl_take (d := 39) (v := ?_) rfl rfl rfl ?_ ?_; rotate_left; (focus ((intro w' hb0 hw'; have hb0' : Below wr.heap.size W0 w' := hb0; have stw := stW0.later hb0'; have hcc := stw.r; have e0 := hcc.at' 0 (by simp); have e1 := hcc.at' 1 (by simp); have e2 := hcc.at' 2 (by simp); have e3 := hcc.at' 3 (by simp); have e4 := hcc.at' 4 (by simp); have ez := hcc.froz; have el := hcc.lt; simp only [List.map_cons, List.map_nil, List.getElem_cons_zero, List.getElem_cons_succ, U64] at e0 e1 e2 e3 e4; go_simp) <;> with_reducible rfl)); simp only [Act.put, List.setIfInBounds_toArray, List.set_cons_zero, List.set_cons_succ])
        refine pl_two rfl rfl rfl rfl (fun K hK => ?_) (fun K hK => ?_)
        · go_simp
          have hzW0 : wr.heap.size ≤ W0.heap.size := stW0.z
          have hbW0 : Below wr.heap.size W0 (W0.alloc (.cells #[] 5)) := (Below.refl _ _).alloc hzW0 _
          have h31 := Own.lit W0 [] 5 1 0 (by simp [maxLen]) rfl W0.heap.size (Nat.le_refl _)
          have hle31 : wr.heap.size ≤ W0.heap.size := hzW0
          refine hK _ _ hbW0 ?_
          have stW1 := stW0.later hbW0
          
          have hs31 : W0.heap.size ≤ (W0.alloc (.cells #[] 5)).heap.size := by simp
          clear hbW0 hK
          generalize W0.alloc (.cells #[] 5) = W1 at *
          refine pl_two rfl rfl rfl rfl (fun K hK => ?_) (fun K hK => ?_)
          · refine wp_app el23 (by rfl) (by rfl) h31 (by rfl) (m := M) (by simp [HMM.out]) (HP.out.below stW1.b (Nat.le_refl _)) (By_oneCell _) (by simp [maxLen]; omega) (by omega) hs31 ?_
            intro v33 W13 h33 hg33
            rw [Nat.zero_add] at h33
            have hbb : Below wr.heap.size W1 W13 := h31.below hg33 (Below.refl _ _) hle31 hs31
            have hs33 : W0.heap.size ≤ W13.heap.size := Nat.le_trans hs31 hg33.size
            have stW13 := stW1.later hbb
            refine hK _ _ hbb ?_
            clear hK
            refine pl_one rfl rfl (fun K hK => ?_)
            go_simp
            have hzW13 : wr.heap.size ≤ W13.heap.size := stW13.z
            have hbW13 : Below wr.heap.size W13 (W13.alloc (.cells #[.int .u8 1] 5)) := (Below.refl _ _).alloc hzW13 _
            have hB1 : Blk (W13.alloc (.cells #[.int .u8 1] 5)) W13.heap.size [By 1] := Blk.new' (cs := [By 1]) rfl
            refine hK _ _ hbW13 ?_
            have stW134 := stW13.later hbW13
            have h33' := h33.alloc (.cells #[.int .u8 1] 5)
            have hs33' : W0.heap.size ≤ (W13.alloc (.cells #[.int .u8 1] 5)).heap.size := by simp; omega
            clear hbW13 hK
            generalize W13.alloc (.cells #[.int .u8 1] 5) = W134 at *
            refine pl_one rfl rfl (fun K hK => ?_)
            refine wp_app el23 (by rfl) (by rfl) h33' (by rfl) (m := 1) rfl hB1.cells (By_oneCell [1]) (by simp [maxLen]; omega) (by omega) hs33' ?_
            intro v35 W5 h35 hg35
            have hbb : Below wr.heap.size W134 W5 := h33'.below hg35 (Below.refl _ _) hle31 hs33'
            have stW5 := stW134.later hbb
            refine hK _ _ hbb ?_
            clear hK hbb hg35
            obtain ⟨o35, c35, rfl, hn35, hm35, hc35, -⟩ := h35.cells
            have hr35 : Reads W5 o35 (M + 1) (partM msg k ++ [1]) := ⟨by simp [HMM.out], by simpa using hc35⟩
            refine pl_one rfl rfl (fun K hK => ?_)
            go_simp
            refine (read13 (partM msg k ++ [1]) W5 o35 _ c35 hr35 (by simp [HMM.out]; omega)).mono ?_
            rintro r W6 ⟨rfl, hb6⟩
            have hbb : Below wr.heap.size W5 W6 := hb6.mono stW5.z
            have stW6 := stW5.later hbb
            refine hK _ _ hbb ?_
            clear hK hbb hb6
            refine pl_one rfl rfl (fun K hK => ?_)
            go_simp
            refine (add16' n (readM (partM msg k ++ [1])) W6).mono ?_
            rintro r W7 ⟨rfl, hbx⟩
            have hbb : Below wr.heap.size W6 W7 := hbx.mono stW6.z
            have stW7 := stW6.later hbb
            refine hK _ _ hbb ?_
            clear hK hbb hbx
            refine pl_one rfl rfl (fun K hK => ?_)
            go_simp
            refine (carry15' (addM n (readM (partM msg k ++ [1]))) W7).mono ?_
            rintro r W8 ⟨rfl, hbx⟩
            have hbb : Below wr.heap.size W7 W8 := hbx.mono stW7.z
            have stW8 := stW7.later hbb
            refine hK _ _ hbb ?_
            clear hK hbb hbx
            refine pl_one rfl rfl (fun K hK => ?_)
            go_simp
            refine (times14 (carryM (addM n (readM (partM msg k ++ [1]))).list) r W8).mono ?_
            rintro r W9 ⟨rfl, hbx⟩
            have hbb : Below wr.heap.size W8 W9 := hbx.mono stW8.z
            have stW9 := stW8.later hbb
            refine hK _ _ hbb ?_
            clear hK hbb hbx
            refine pl_last rfl rfl (fun K hK => ?_)
            have hn9 := stW9.n
            rw [show (timesM (carryM (addM n (readM (partM msg k ++ [1]))).list) r).val = Value.agg #[.int .u64 (m.a.toNat : Int), .int .u64 (m.b.toNat : Int), .int .u64 (m.c.toNat : Int), .int .u64 (m.d.toNat : Int), .int .u64 (m.e.toNat : Int)] from by rw [hmm.out]; rfl]
            have e0 := hn9.at' 0 (by simp); have e1 := hn9.at' 1 (by simp); have e2 := hn9.at' 2 (by simp); have e3 := hn9.at' 3 (by simp); have e4 := hn9.at' 4 (by simp); have ez := hn9.froz; have el := hn9.lt; simp only [List.map_cons, List.map_nil, List.getElem_cons_zero, List.getElem_cons_succ, U64] at e0 e1 e2 e3 e4
            go_simp
            refine hK _ _ ?_
            clear hK e0 e1 e2 e3 e4 ez el
            go_wp2
            go_roundw
            case measure =>
              have hee := HEE.out
              (simp [intOf]) <;> omega
            case rel =>
              have hr9 := stW9.r; have hb9 := stW9.b; have hlw := stW9.lw; have hl6 := stW9.l6; have hl7 := stW9.l7
              have hpe := HPE.out; have hs2 := HB12.out.size; have hee := HEE.out
              refine ⟨k + 1, by omega, by rw [show 16 * (k + 1) = e by omega], ?_, ?_, ?_⟩
              · exact Lib.hid (Blk.cast (by (with_reducible try refine Lib.hid ?_); (repeat (with_reducible first | assumption | (apply Blk.new' <;> (simp; done)) | apply Blk.drew | apply Blk.drewN | apply Blk.alloc | apply Blk.set | apply Blk.setOther)) <;> (try simp [length_fillTo, length_turnTo]) <;> (try omega)) (by rfl))
              · refine Lib.hid (Blk.cast (by (with_reducible try refine Lib.hid ?_); (repeat (with_reducible first | assumption | (apply Blk.new' <;> (simp; done)) | apply Blk.drew | apply Blk.drewN | apply Blk.alloc | apply Blk.set | apply Blk.setOther)) <;> (try simp [length_fillTo, length_turnTo]) <;> (try omega)) ?_)
                rw [HI.out, hmm.out]; rfl
              · (with_reducible try refine Lib.hid ?_); (repeat (with_reducible first | assumption | exact Below.refl _ _ | apply Below.drew | apply Below.drewN' | apply Below.setCell | apply Below.alloc)) <;> (try simp [length_fillTo, length_turnTo]) <;> (try omega)
          · go_simp
            have hzW1 : wr.heap.size ≤ W1.heap.size := stW1.z
            have hbW1 : Below wr.heap.size W1 (W1.alloc (.cells #[.int .u8 1] 5)) := (Below.refl _ _).alloc hzW1 _
            have hB1 : Blk (W1.alloc (.cells #[.int .u8 1] 5)) W1.heap.size [By 1] := Blk.new' (cs := [By 1]) rfl
            refine hK _ _ hbW1 ?_
            have stW14 := stW1.later hbW1
            have h31' := h31.alloc (.cells #[.int .u8 1] 5)
            have hs31' : W0.heap.size ≤ (W1.alloc (.cells #[.int .u8 1] 5)).heap.size := by simp; omega
            have hne : W0.heap.size ≠ W1.heap.size := by have := (h31.row.lt W0.heap.size rfl).2; omega
            clear hbW1 hK
            generalize W1.alloc (.cells #[.int .u8 1] 5) = W14 at *
            refine pl_one rfl rfl (fun K hK => ?_)
            refine wp_app el23 (by rfl) (by rfl) h31' (by rfl) (m := M) (by simp [HMM.out]) (HP.out.below stW14.b (Nat.le_refl _)) (By_oneCell _) (by simp [maxLen]; omega) (by omega) hs31' ?_
            intro v33 W143 h33 hg33
            rw [Nat.zero_add] at h33
            have hbb : Below wr.heap.size W14 W143 := h31'.below hg33 (Below.refl _ _) hle31 hs31'
            have hs33 : W0.heap.size ≤ W143.heap.size := Nat.le_trans hs31' hg33.size
            have stW143 := stW14.later hbb
            refine hK _ _ hbb ?_
            have hB2 := hB1.grown hg33 (by simp [Value.ownBlock]; exact hne)
            have h33' := h33
            have hs33' := hs33
            clear hK
            refine pl_one rfl rfl (fun K hK => ?_)
            refine wp_app el23 (by rfl) (by rfl) h33' (by rfl) (m := 1) rfl hB2.cells (By_oneCell [1]) (by simp [maxLen]; omega) (by omega) hs33' ?_
            intro v35 W5 h35 hg35
            have hbb : Below wr.heap.size W143 W5 := h33'.below hg35 (Below.refl _ _) hle31 hs33'
            have stW5 := stW143.later hbb
            refine hK _ _ hbb ?_
            clear hK hbb hg35
            obtain ⟨o35, c35, rfl, hn35, hm35, hc35, -⟩ := h35.cells
            have hr35 : Reads W5 o35 (M + 1) (partM msg k ++ [1]) := ⟨by simp [HMM.out], by simpa using hc35⟩
            refine pl_one rfl rfl (fun K hK => ?_)
            go_simp
            refine (read13 (partM msg k ++ [1]) W5 o35 _ c35 hr35 (by simp [HMM.out]; omega)).mono ?_
            rintro r W6 ⟨rfl, hb6⟩
            have hbb : Below wr.heap.size W5 W6 := hb6.mono stW5.z
            have stW6 := stW5.later hbb
            refine hK _ _ hbb ?_
            clear hK hbb hb6
            refine pl_one rfl rfl (fun K hK => ?_)
            go_simp
            refine (add16' n (readM (partM msg k ++ [1])) W6).mono ?_
            rintro r W7 ⟨rfl, hbx⟩
            have hbb : Below wr.heap.size W6 W7 := hbx.mono stW6.z
            have stW7 := stW6.later hbb
            refine hK _ _ hbb ?_
            clear hK hbb hbx
            refine pl_one rfl rfl (fun K hK => ?_)
            go_simp
            refine (carry15' (addM n (readM (partM msg k ++ [1]))) W7).mono ?_
            rintro r W8 ⟨rfl, hbx⟩
            have hbb : Below wr.heap.size W7 W8 := hbx.mono stW7.z
            have stW8 := stW7.later hbb
            refine hK _ _ hbb ?_
            clear hK hbb hbx
            refine pl_one rfl rfl (fun K hK => ?_)
            go_simp
            refine (times14 (carryM (addM n (readM (partM msg k ++ [1]))).list) r W8).mono ?_
            rintro r W9 ⟨rfl, hbx⟩
            have hbb : Below wr.heap.size W8 W9 := hbx.mono stW8.z
            have stW9 := stW8.later hbb
            refine hK _ _ hbb ?_
            clear hK hbb hbx
            refine pl_last rfl rfl (fun K hK => ?_)
            have hn9 := stW9.n
            rw [show (timesM (carryM (addM n (readM (partM msg k ++ [1]))).list) r).val = Value.agg #[.int .u64 (m.a.toNat : Int), .int .u64 (m.b.toNat : Int), .int .u64 (m.c.toNat : Int), .int .u64 (m.d.toNat : Int), .int .u64 (m.e.toNat : Int)] from by rw [hmm.out]; rfl]
            have e0 := hn9.at' 0 (by simp); have e1 := hn9.at' 1 (by simp); have e2 := hn9.at' 2 (by simp); have e3 := hn9.at' 3 (by simp); have e4 := hn9.at' 4 (by simp); have ez := hn9.froz; have el := hn9.lt; simp only [List.map_cons, List.map_nil, List.getElem_cons_zero, List.getElem_cons_succ, U64] at e0 e1 e2 e3 e4
            go_simp
            refine hK _ _ ?_
            clear hK e0 e1 e2 e3 e4 ez el
            go_wp2
            go_roundw
            case measure =>
              have hee := HEE.out
              (simp [intOf]) <;> omega
            case rel =>
              have hr9 := stW9.r; have hb9 := stW9.b; have hlw := stW9.lw; have hl6 := stW9.l6; have hl7 := stW9.l7
              have hpe := HPE.out; have hs2 := HB12.out.size; have hee := HEE.out
              refine ⟨k + 1, by omega, by rw [show 16 * (k + 1) = e by omega], ?_, ?_, ?_⟩
              · exact Lib.hid (Blk.cast (by (with_reducible try refine Lib.hid ?_); (repeat (with_reducible first | assumption | (apply Blk.new' <;> (simp; done)) | apply Blk.drew | apply Blk.drewN | apply Blk.alloc | apply Blk.set | apply Blk.setOther)) <;> (try simp [length_fillTo, length_turnTo]) <;> (try omega)) (by rfl))
              · refine Lib.hid (Blk.cast (by (with_reducible try refine Lib.hid ?_); (repeat (with_reducible first | assumption | (apply Blk.new' <;> (simp; done)) | apply Blk.drew | apply Blk.drewN | apply Blk.alloc | apply Blk.set | apply Blk.setOther)) <;> (try simp [length_fillTo, length_turnTo]) <;> (try omega)) ?_)
                rw [HI.out, hmm.out]; rfl
              · (with_reducible try refine Lib.hid ?_); (repeat (with_reducible first | assumption | exact Below.refl _ _ | apply Below.drew | apply Below.drewN' | apply Below.setCell | apply Below.alloc)) <;> (try simp [length_fillTo, length_turnTo]) <;> (try omega)
        · go_simp
          have hzW0 : wr.heap.size ≤ W0.heap.size := stW0.z
          have hbW0 : Below wr.heap.size W0 (W0.alloc (.cells #[.int .u8 1] 5)) := (Below.refl _ _).alloc hzW0 _
          have hB1 : Blk (W0.alloc (.cells #[.int .u8 1] 5)) W0.heap.size [By 1] := Blk.new' (cs := [By 1]) rfl
          refine hK _ _ hbW0 ?_
          have stW4 := stW0.later hbW0
          
          clear hbW0 hK
          generalize W0.alloc (.cells #[.int .u8 1] 5) = W4 at *
          obtain ⟨b1, hb1⟩ : ∃ b, W0.heap.size = b := ⟨_, rfl⟩
          rw [hb1] at hB1
          refine pl_one rfl rfl (fun K hK => ?_)
          go_simp
          have hzW4 : wr.heap.size ≤ W4.heap.size := stW4.z
          have hbW4 : Below wr.heap.size W4 (W4.alloc (.cells #[] 5)) := (Below.refl _ _).alloc hzW4 _
          have h31 := Own.lit W4 [] 5 1 0 (by simp [maxLen]) rfl W4.heap.size (Nat.le_refl _)
          have hle31 : wr.heap.size ≤ W4.heap.size := hzW4
          refine hK _ _ hbW4 ?_
          have stW41 := stW4.later hbW4
          have hB1' := hB1.alloc (.cells #[] 5)
          have hne : W4.heap.size ≠ b1 := by have := hB1.lt; omega
          have hs31 : W4.heap.size ≤ (W4.alloc (.cells #[] 5)).heap.size := by simp
          clear hbW4 hK
          generalize W4.alloc (.cells #[] 5) = W41 at *
          refine pl_one rfl rfl (fun K hK => ?_)
          refine wp_app el23 (by rfl) (by rfl) h31 (by rfl) (m := M) (by simp [HMM.out]) (HP.out.below stW41.b (Nat.le_refl _)) (By_oneCell _) (by simp [maxLen]; omega) (by omega) hs31 ?_
          intro v33 W413 h33 hg33
          rw [Nat.zero_add] at h33
          have hbb : Below wr.heap.size W41 W413 := h31.below hg33 (Below.refl _ _) hle31 hs31
          have hs33 : W4.heap.size ≤ W413.heap.size := Nat.le_trans hs31 hg33.size
          have stW413 := stW41.later hbb
          refine hK _ _ hbb ?_
          have hB2 := hB1'.grown hg33 (by simp [Value.ownBlock]; exact hne)
          have h33' := h33
          have hs33' := hs33
          clear hK
          refine pl_one rfl rfl (fun K hK => ?_)
          refine wp_app el23 (by rfl) (by rfl) h33' (by rfl) (m := 1) rfl hB2.cells (By_oneCell [1]) (by simp [maxLen]; omega) (by omega) hs33' ?_
          intro v35 W5 h35 hg35
          have hbb : Below wr.heap.size W413 W5 := h33'.below hg35 (Below.refl _ _) hle31 hs33'
          have stW5 := stW413.later hbb
          refine hK _ _ hbb ?_
          clear hK hbb hg35
          obtain ⟨o35, c35, rfl, hn35, hm35, hc35, -⟩ := h35.cells
          have hr35 : Reads W5 o35 (M + 1) (partM msg k ++ [1]) := ⟨by simp [HMM.out], by simpa using hc35⟩
          refine pl_one rfl rfl (fun K hK => ?_)
          go_simp
          refine (read13 (partM msg k ++ [1]) W5 o35 _ c35 hr35 (by simp [HMM.out]; omega)).mono ?_
          rintro r W6 ⟨rfl, hb6⟩
          have hbb : Below wr.heap.size W5 W6 := hb6.mono stW5.z
          have stW6 := stW5.later hbb
          refine hK _ _ hbb ?_
          clear hK hbb hb6
          refine pl_one rfl rfl (fun K hK => ?_)
          go_simp
          refine (add16' n (readM (partM msg k ++ [1])) W6).mono ?_
          rintro r W7 ⟨rfl, hbx⟩
          have hbb : Below wr.heap.size W6 W7 := hbx.mono stW6.z
          have stW7 := stW6.later hbb
          refine hK _ _ hbb ?_
          clear hK hbb hbx
          refine pl_one rfl rfl (fun K hK => ?_)
          go_simp
          refine (carry15' (addM n (readM (partM msg k ++ [1]))) W7).mono ?_
          rintro r W8 ⟨rfl, hbx⟩
          have hbb : Below wr.heap.size W7 W8 := hbx.mono stW7.z
          have stW8 := stW7.later hbb
          refine hK _ _ hbb ?_
          clear hK hbb hbx
          refine pl_one rfl rfl (fun K hK => ?_)
          go_simp
          refine (times14 (carryM (addM n (readM (partM msg k ++ [1]))).list) r W8).mono ?_
          rintro r W9 ⟨rfl, hbx⟩
          have hbb : Below wr.heap.size W8 W9 := hbx.mono stW8.z
          have stW9 := stW8.later hbb
          refine hK _ _ hbb ?_
          clear hK hbb hbx
          refine pl_last rfl rfl (fun K hK => ?_)
          have hn9 := stW9.n
          rw [show (timesM (carryM (addM n (readM (partM msg k ++ [1]))).list) r).val = Value.agg #[.int .u64 (m.a.toNat : Int), .int .u64 (m.b.toNat : Int), .int .u64 (m.c.toNat : Int), .int .u64 (m.d.toNat : Int), .int .u64 (m.e.toNat : Int)] from by rw [hmm.out]; rfl]
          have e0 := hn9.at' 0 (by simp); have e1 := hn9.at' 1 (by simp); have e2 := hn9.at' 2 (by simp); have e3 := hn9.at' 3 (by simp); have e4 := hn9.at' 4 (by simp); have ez := hn9.froz; have el := hn9.lt; simp only [List.map_cons, List.map_nil, List.getElem_cons_zero, List.getElem_cons_succ, U64] at e0 e1 e2 e3 e4
          go_simp
          refine hK _ _ ?_
          clear hK e0 e1 e2 e3 e4 ez el
          go_wp2
          go_roundw
          case measure =>
            have hee := HEE.out
            (simp [intOf]) <;> omega
          case rel =>
            have hr9 := stW9.r; have hb9 := stW9.b; have hlw := stW9.lw; have hl6 := stW9.l6; have hl7 := stW9.l7
            have hpe := HPE.out; have hs2 := HB12.out.size; have hee := HEE.out
            refine ⟨k + 1, by omega, by rw [show 16 * (k + 1) = e by omega], ?_, ?_, ?_⟩
            · exact Lib.hid (Blk.cast (by (with_reducible try refine Lib.hid ?_); (repeat (with_reducible first | assumption | (apply Blk.new' <;> (simp; done)) | apply Blk.drew | apply Blk.drewN | apply Blk.alloc | apply Blk.set | apply Blk.setOther)) <;> (try simp [length_fillTo, length_turnTo]) <;> (try omega)) (by rfl))
            · refine Lib.hid (Blk.cast (by (with_reducible try refine Lib.hid ?_); (repeat (with_reducible first | assumption | (apply Blk.new' <;> (simp; done)) | apply Blk.drew | apply Blk.drewN | apply Blk.alloc | apply Blk.set | apply Blk.setOther)) <;> (try simp [length_fillTo, length_turnTo]) <;> (try omega)) ?_)
              rw [HI.out, hmm.out]; rfl
            · (with_reducible try refine Lib.hid ?_); (repeat (with_reducible first | assumption | exact Below.refl _ _ | apply Below.drew | apply Below.drewN' | apply Below.setCell | apply Below.alloc)) <;> (try simp [length_fillTo, length_turnTo]) <;> (try omega)
    · have hk' : k = (msg.length + 15) / 16 := by omega
      subst hk'
      have hlt' : ¬ ((16 * ((msg.length + 15) / 16) : Nat) : Int) < (msg.length : Int) := by omega
      generalize tagIter r msg ((msg.length + 15) / 16) = n at *
      generalize 16 * ((msg.length + 15) / 16) = p at *
      clear hk hlt
      obtain ⟨bk, ock, rfl, hbk, -⟩ := HK.out.cells.bytes (i := 16) (by rw [HL.out]; omega)
      have HKD : Hid (Cells w (some ⟨bk, ock + 16, none⟩) ((key.drop 16).map By)) := by
        have := (HK.out.cells).drop 16
        rw [← List.map_drop] at this
        exact this
      have hck16 : ¬ ck = 16 := by omega
      have hck16' : ¬ ck ≤ 16 := by omega
      go_wp2_with fail
      refine wp_region_plan (some wr.heap.size) 8 (.take 0 (.take 3 (.take 4 (.one 1 (.one 2 (.one 5 (.take 6 (.take 7 .done)))))))) (by kernel_rfl) (by kernel_rfl) (fun _ _ dd _ _ h => by cases dd <;> exact h) ?_
      intro W0 hW0
      have hN0 := hN.out.drew
      have hB0 := hbel.out.drew
      rw [← hW0] at hN0 hB0
      have hsz : wr.heap.size = W0.heap.size := by rw [hW0]; rfl
      have hlN := hN.out.lt
      clear hR hN hbel hW0
      (refine pl_take (d := 41) (v := ?_) rfl rfl rfl ?_ ?_; rotate_left; (focus ((intro w' hb0 hw'; have hb0' : Below wr.heap.size W0 w' := hb0; have hcc := hN0.laterB hlN hb0'; have e0 := hcc.at' 0 (by simp); have e1 := hcc.at' 1 (by simp); have e2 := hcc.at' 2 (by simp); have e3 := hcc.at' 3 (by simp); have e4 := hcc.at' 4 (by simp); have ez := hcc.froz; have el := hcc.lt; simp only [List.map_cons, List.map_nil, List.getElem_cons_zero, List.getElem_cons_succ, U64] at e0 e1 e2 e3 e4; go_simp) <;> with_reducible rfl)); simp only [Act.put, List.setIfInBounds_toArray, List.set_cons_zero, List.set_cons_succ])
      (refine pl_take (d := 44) (v := ?_) rfl rfl rfl ?_ ?_; rotate_left; (focus ((intro w' hb0 hw'; go_simp) <;> with_reducible rfl)); simp only [Act.put, List.setIfInBounds_toArray, List.set_cons_zero, List.set_cons_succ])
      (refine pl_take (d := 45) (v := ?_) rfl rfl rfl ?_ ?_; rotate_left; (focus ((intro w' hb0 hw'; go_simp) <;> with_reducible rfl)); simp only [Act.put, List.setIfInBounds_toArray, List.set_cons_zero, List.set_cons_succ])
      refine pl_one rfl rfl (fun K hK => ?_)
      go_simp
      refine (least19 n W0).mono ?_
      rintro r W1 ⟨rfl, hb1⟩
      refine hK _ _ (hb1.mono (Nat.le_of_eq hsz)) ?_
      have hB1 := below_step hB0 hb1
      have hs1 := hb1.size
      clear hK hb1
      refine pl_one rfl rfl (fun K hK => ?_)
      go_simp
      refine (write18 (leastM n) W1).mono ?_
      rintro r W2 ⟨o2, c2, rfl, hc2, hb2⟩
      refine hK _ _ (hb2.mono (by omega)) ?_
      have hs2 := hb2.size
      have hB2 := below_step hB1 hb2
      clear hK hb2
      refine pl_one rfl rfl (fun K hK => ?_)
      go_simp
      have hlw : (writeM (leastM n)).length = 16 := by simp [writeM]
      refine (sum17 (writeM (leastM n)) (key.drop 16) W2 o2 _ _ _ c2 _ ⟨by simp, hc2⟩ ⟨by simp [HL.out], HKD.out.below hB2 (Nat.le_refl _)⟩ hlw (by simp [HL.out])).mono ?_
      rintro r W3 ⟨g3, rfl, hg3, hc3, hb3⟩
      refine hK _ _ (hb3.mono (by omega)) ?_
      have hB3 := below_step hB2 hb3
      clear hK hb3
      (refine pl_take (d := 4) (v := ?_) rfl rfl rfl ?_ ?_; rotate_left; (focus ((intro w' hb0 hw'; go_simp) <;> with_reducible rfl)); simp only [Act.put, List.setIfInBounds_toArray, List.set_cons_zero, List.set_cons_succ])
      (refine pl_take (d := 5) (v := ?_) rfl rfl rfl ?_ ?_; rotate_left; (focus ((intro w' hb0 hw'; go_simp) <;> with_reducible rfl)); simp only [Act.put, List.setIfInBounds_toArray, List.set_cons_zero, List.set_cons_succ])
      refine pl_end ?_
      have hs0 := hB0.size
      go_wp2
      refine bodyPost_ret (v := .tuple #[.slice (some ⟨g3, 0, none⟩) 16 16, .int .i64 0]) (by simp [results, Try.results7, go_sem]) rfl ⟨g3, rfl, by omega, ?_, hB3⟩
      rw [HT.out]; exact hc3
end Go.Proofs.Ytlheepcojeaeaaa
