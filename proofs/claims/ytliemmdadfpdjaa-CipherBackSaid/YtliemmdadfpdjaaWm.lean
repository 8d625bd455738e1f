/-
  Walk: the document's changed text.
-/
import Derived.Test.YtliemmdadfpdjaaWh
import Derived.Test.YtliemmdadfpdjaaWj
namespace Go.Proofs.Ytliemmdadfpdjaa
open Go.RowKit Go.Proofs.Ytliemmdadfpdjaa.Plan Go.Proofs.Ytliemmdadfpdjaa.Eager
set_option maxHeartbeats 1000000
set_option linter.unusedVariables false
set_option linter.unusedSimpArgs false

theorem cell_later {w w' : World} {b o : Nat} {v : Value} (h : w.cell? ⟨b, o, none⟩ = some v) (hb : Below w.heap.size w w') : w'.cell? ⟨b, o, none⟩ = some v := by
  rw [hb.cell (p := ⟨b, o, none⟩) (World.block_lt_of_cell? w ⟨b, o, none⟩ h), h]
theorem Cells.grown {w w' : World} {oa : Option Addr} {cs : List Value} {row : Option Nat} (h : Cells w oa cs) (hg : w.grownBy w' row) (hne : ∀ a, oa = some a → row ≠ some a.block) : Cells w' oa cs := by
  intro i hi
  obtain ⟨b, o, rfl, hb, hcell⟩ := h.at' hi
  refine ⟨b, o, rfl, ?_⟩
  rw [World.cell?_of_block (w := w) (a := ⟨b, o + i, none⟩) (hg.block b hb (fun e => hne _ rfl e.symm)), hcell, List.getElem?_eq_getElem hi]

theorem wrap64_nat {q : Nat} (h : q < 1000000000) : wrap64 (q : Int) = (q : Int) := by unfold wrap64; omega

theorem tdiv_nat {b q : Nat} (h : b / 64 = q) : (b : Int).tdiv 64 = (q : Int) := by rw [Int.tdiv_eq_ediv_of_nonneg (by omega)]; omega

theorem refXor13_bad (vc vm : Value) (w : World) (ok on : Option Addr) (n c m d : Nat) (h : ¬ (n = 32 ∧ m = 12)) :
    Calls Try.prog 13 #[.slice ok n c, .slice on m d, vc, vm] w fun r w' => r = .returned (.tuple #[.slice none 0 0, .int .i64 2]) ∧ w' = w := by
  by_cases h1 : n = 32
  · have h2 : ¬ m = 12 := fun h2 => h ⟨h1, h2⟩
    subst h1; clear h
    have h2' : ¬ (m : Int) = 12 := by omega
    go_enter Try.func13, Try.ntmps13
    go_wp2
    refine bodyPost_ret (v := .tuple #[.slice none 0 0, .int .i64 2]) (by simp [results, Try.results13, go_sem]) rfl ⟨rfl, rfl⟩
  · have h1' : ¬ (n : Int) = 32 := by omega
    clear h
    go_enter Try.func13, Try.ntmps13
    go_wp2
    refine bodyPost_ret (v := .tuple #[.slice none 0 0, .int .i64 2]) (by simp [results, Try.results13, go_sem]) rfl ⟨rfl, rfl⟩

theorem refXor13_big (msg : List UInt8) (ctr : UInt32) (w : World) (ok on om : Option Addr) (c d e : Nat) (hmx : msg.length ≤ 1000000) (h : 4294967296 - ctr.toNat < (msg.length + 63) / 64) :
    Calls Try.prog 13 #[.slice ok 32 c, .slice on 12 d, .int .u32 (ctr.toNat : Int), .slice om msg.length e] w fun r w' => r = .returned (.tuple #[.slice none 0 0, .int .i64 3]) ∧ w' = w := by
  have hct := ctr.toNat_lt
  obtain ⟨s, hs⟩ : ∃ s, 4294967296 - ctr.toNat = s := ⟨_, rfl⟩
  have r0 : IntKind.i64.wrap (ctr.toNat : Int) = (ctr.toNat : Int) := by rw [IntKind.wrap_i64]; omega
  have hs' : 4294967296 - (ctr.toNat : Int) = (s : Int) := by omega
  have r1 : IntKind.i64.wrap (4294967296 - (ctr.toNat : Int)) = (s : Int) := by rw [hs', IntKind.wrap_i64]; omega
  obtain ⟨b, hb⟩ : ∃ b, msg.length + 63 = b := ⟨_, rfl⟩
  have r2 : IntKind.i64.wrap ((msg.length : Int) + 63) = (b : Int) := by rw [IntKind.wrap_i64]; omega
  obtain ⟨q, hq⟩ : ∃ q, b / 64 = q := ⟨_, rfl⟩
  have r3 : (b : Int).tdiv 64 = (q : Int) := tdiv_nat hq
  have r4 : wrap64 (q : Int) = (q : Int) := wrap64_nat (by omega)
  have r6 : (s : Int) < (q : Int) := Int.ofNat_lt.2 (by rw [← hs, ← hq, ← hb]; exact h)
  have H := Lib.hid (And.intro h (And.intro hb (And.intro hq hs)))
  clear h hb hq hs hs' hct hmx
  go_enter Try.func13, Try.ntmps13
  go_wp2
  refine bodyPost_ret (v := .tuple #[.slice none 0 0, .int .i64 3]) (by simp [results, Try.results13, go_sem]) rfl ⟨rfl, rfl⟩
/-- the loop's places: the row, the block in use, the next byte's number -/
def XRel (w : World) (key nonce : List UInt8) (ctr : UInt32) (msg : List UInt8) (v b i : Value) (wr : World) : Prop :=
  ∃ k : Nat, k ≤ msg.length ∧ i = .int .i64 k ∧ Hid (Own wr w.heap.size 5 1 v k ((List.range k).map fun t => By (xorByte key nonce ctr msg t))) ∧ Hid (Below w.heap.size w wr) ∧
    (k % 64 ≠ 0 → ∃ bb ob cb, b = .slice (some ⟨bb, ob, none⟩) 64 cb ∧ bb < wr.heap.size ∧ v.ownBlock ≠ some bb ∧ Hid (Cells wr (some ⟨bb, ob, none⟩) ((blockM (firstM key nonce (ctr + UInt32.ofNat (k / 64)))).map By)))

theorem refXor13 (key nonce : List UInt8) (ctr : UInt32) (msg : List UInt8) (w : World) (ok on om : Option Addr) (n c m d kk e : Nat) (hk : Reads w ok n key) (hn : Reads w on m nonce) (hm : Reads w om kk msg) (hlk : key.length = 32) (hln : nonce.length = 12) (hc : n ≤ c) (hd : m ≤ d)
    (hmx : msg.length ≤ 1000000) (hbl : ¬ 4294967296 - ctr.toNat < (msg.length + 63) / 64) :
    Calls Try.prog 13 #[.slice ok n c, .slice on m d, .int .u32 (ctr.toNat : Int), .slice om kk e] w (BytesOk w (xorM key nonce ctr msg)) := by
  obtain rfl : n = 32 := hk.len.trans hlk
  obtain rfl : m = 12 := hn.len.trans hln
  obtain rfl : kk = msg.length := hm.len
  have HK := Lib.hid hk; have HN := Lib.hid hn; have HMM := Lib.hid hm.cells; clear hk hn hm
  have HLK := Lib.hid hlk; have HLN := Lib.hid hln; clear hlk hln
  have HCC := Lib.hid hc; have HDD := Lib.hid hd; clear hc hd
  have HX : Hid (xorM key nonce ctr msg = (List.range msg.length).map (xorByte key nonce ctr msg)) := rfl
  have hct := ctr.toNat_lt
  obtain ⟨s, hs⟩ : ∃ s, 4294967296 - ctr.toNat = s := ⟨_, rfl⟩
  have r0 : IntKind.i64.wrap (ctr.toNat : Int) = (ctr.toNat : Int) := by rw [IntKind.wrap_i64]; omega
  have hs' : 4294967296 - (ctr.toNat : Int) = (s : Int) := by omega
  have r1 : IntKind.i64.wrap (4294967296 - (ctr.toNat : Int)) = (s : Int) := by rw [hs', IntKind.wrap_i64]; omega
  obtain ⟨b, hb⟩ : ∃ b, msg.length + 63 = b := ⟨_, rfl⟩
  have r2 : IntKind.i64.wrap ((msg.length : Int) + 63) = (b : Int) := by rw [IntKind.wrap_i64]; omega
  obtain ⟨q, hq⟩ : ∃ q, b / 64 = q := ⟨_, rfl⟩
  have r3 : (b : Int).tdiv 64 = (q : Int) := tdiv_nat hq
  have r4 : wrap64 (q : Int) = (q : Int) := wrap64_nat (by omega)
  have r6 : ¬ (s : Int) < (q : Int) := fun hh => hbl (by have := Int.ofNat_lt.1 hh; rw [← hs, ← hq, ← hb] at this; exact this)
  have HMX := Lib.hid hmx
  clear hbl hb hq hs hs' hct hmx
  go_enter Try.func13, Try.ntmps13
  go_wp2
  clear r0 r1 r2 r3 r4 r6
  go_loopw [11, 12, 13] (fun v b i wr => XRel w key nonce ctr msg v b i wr) (fun _ _ i _ => msg.length - (intOf i).toNat)
  case atStart => exact ⟨0, by omega, rfl, Lib.hid (Own.nil _ _ _ _), by (with_reducible try refine Lib.hid ?_); (repeat (with_reducible first | assumption | exact Below.refl _ _ | apply Below.drew | apply Below.drewN' | apply Below.setCell | apply Below.alloc)) <;> (try simp [length_fillTo, length_turnTo]) <;> (try omega), fun h => absurd rfl h⟩
  case round =>
    obtain ⟨k, hk, rfl, hO, hbel, hB⟩ := hrel
    have hmx := HMX.out
    by_cases hlt : k < msg.length
    · have hlt' : (k : Int) < (msg.length : Int) := by omega
      obtain ⟨i, hi⟩ : ∃ i, k % 64 = i := ⟨_, rfl⟩
      obtain ⟨j, hj⟩ : ∃ j, k / 64 = j := ⟨_, rfl⟩
      have hi64 : i < 64 := by omega
      have hi64' : (i : Int) < 64 := by omega
      have t1 : (k : Int).tmod 64 = (i : Int) := by rw [Int.tmod_eq_emod_of_nonneg (by omega)]; omega
      have HIJ : Hid (k = 64 * j + i) := by show _ = _; omega
      obtain ⟨bm, om', rfl, hbm, -⟩ := HMM.out.bytes (i := k) (by omega)
      obtain ⟨x1, hx1⟩ : ∃ x, msg[k]'hlt = x := ⟨_, rfl⟩
      have hm0 : w.cell? ⟨bm, om' + k, none⟩ = some (.int .u8 (x1.toNat : Int)) := by
        obtain ⟨b', o', he, -, hc'⟩ := HMM.out.bytes (i := k) hlt
        obtain ⟨rfl, rfl⟩ : bm = b' ∧ om' = o' := by simpa using he
        rw [hc', hx1]
      have hxb0 : ∀ (bl : List UInt8) (hbl : bl = blockM (firstM key nonce (ctr + UInt32.ofNat j))) (h : i < bl.length), xorByte key nonce ctr msg k = msg[k]'hlt ^^^ bl[i]'h := by
        intro bl hbl h
        subst hbl
        have hkk : k = 64 * j + i := HIJ.out
        have := xorByte_at key nonce ctr msg j i hi64 (by omega)
        simp only [← hkk] at this
        exact this
      have hlb := blockM_length (firstM key nonce (ctr + UInt32.ofNat j))
      by_cases h0 : i = 0
      · subst h0
        have t1' : (k : Int).tmod 64 = 0 := t1
        have t2 : (k : Int).tdiv 64 = (j : Int) := tdiv_nat hj
        have t3 : wrap64 (j : Int) = (j : Int) := wrap64_nat (by omega)
        have t4 : IntKind.u32.wrap (j : Int) = (j : Int) := by rw [IntKind.wrap_u32]; omega
        have t5 := add_u32 ctr (UInt32.ofNat j)
        rw [show (((UInt32.ofNat j).toNat : Nat) : Int) = (j : Int) by rw [UInt32.toNat_ofNat']; omega] at t5
        obtain ⟨cj, hcj⟩ : ∃ x, ctr + UInt32.ofNat j = x := ⟨_, rfl⟩
        rw [hcj] at t5 hxb0 hlb
        have HCJ := Lib.hid hcj
        have HXB := Lib.hid hxb0; have HX1 := Lib.hid hx1; have HM0 := Lib.hid hm0; have HLT := Lib.hid hlt; have HLB := Lib.hid hlb
        clear hcj hi hj hB hxb0 hx1 hm0 hlb
        go_wp2_with fail
        refine (block11 key nonce cj wr ok on 32 c 12 d (HK.out.below hbel.out) (HN.out.below hbel.out) HLK.out HLN.out HCC.out HDD.out).mono ?_
        rintro r WW ⟨oa', nb, cb, rfl, hr, -, -, hge, hb1⟩
        obtain rfl : nb = 64 := hr.len.trans HLB.out
        obtain ⟨bb, ob, rfl, hltb, -⟩ := hr.cells.bytes (i := 0) (by rw [HLB.out]; omega)
        have hgb : wr.heap.size ≤ bb := hge _ rfl
        have hne : u11.ownBlock ≠ some bb := fun h => by have := (hO.out.row.lt bb h).2; omega
        have hO := hO.out.later hb1
        have hbel := below_step hbel.out hb1
        have hC := hr.cells
        have hlb := HLB.out; have hxb0 := HXB.out; have hx1 := HX1.out; have hlt := HLT.out
        have hm1 := cell_later HM0.out hbel
        clear hge hb1 hr HXB HX1 HM0 HLT HLB t2 t3 t4 t5
        obtain ⟨bl, hbl⟩ : ∃ bl, blockM (firstM key nonce cj) = bl := ⟨_, rfl⟩
        rw [hbl] at hC hlb
        obtain ⟨i, hi0⟩ : ∃ i, 0 = i := ⟨_, rfl⟩
        have hibl : i < bl.length := by omega
        have hxb : ∀ h : i < bl.length, xorByte key nonce ctr msg k = msg[k]'hlt ^^^ bl[i]'h := by
          intro h; subst hi0; exact hxb0 bl hbl.symm h
        have hbl : bl = blockM (firstM key nonce (ctr + UInt32.ofNat j)) := by rw [HCJ.out, hbl]
        have t1n : (k : Int).tmod 64 = (i : Int) := by subst hi0; exact t1
        clear t1 hi64 hi64'
        have hi64 : i < 64 := by omega
        have hi64' : (i : Int) < 64 := by omega
        have HIJn : Hid (k = 64 * j + i) := by subst hi0; exact HIJ
        clear HIJ
        have HIJ := HIJn
        clear hxb0 hgb t1' HIJn
        clear hi0 HCJ
        have hx2 : ∃ x, bl[i]'hibl = x := ⟨_, rfl⟩
        obtain ⟨x2, hx2⟩ := hx2
        have hl2 : WW.cell? ⟨bb, ob + i, none⟩ = some (.int .u8 (x2.toNat : Int)) := by
          obtain ⟨b', o', he, -, hc'⟩ := hC.bytes (i := i) hibl
          obtain ⟨rfl, rfl⟩ : bb = b' ∧ ob = o' := by simpa using he
          rw [hc', hx2]
        have rx := bits_xor_u8 x1 x2
        obtain ⟨y, hy⟩ : ∃ y, x1 ^^^ x2 = y := ⟨_, rfl⟩
        rw [hy] at rx
        have HV : Hid (xorByte key nonce ctr msg k = y) := by
          have h := hxb hibl
          rw [hx1, hx2, hy] at h
          exact h
        have HBL := Lib.hid hbl
        clear hy hxb hx1 hx2 hbl
        go_wp2
        refine wp_region_plan (some w.heap.size) [] [] (.take 0 (.take 1 (.take 2 (.take 3 (.take 4 (.take 5 (.take 6 (.take 7 (.take 8 (.one 9 (.take 10 (.one 11 (.one 12 (.take 13 .done)))))))))))))) (by kernel_rfl) (by kernel_rfl) (fun _ _ dd _ _ h => by cases dd <;> exact h) ?_
        intro W0 hW0
        have hO0 : Own W0 w.heap.size 5 1 u11 k ((List.range k).map fun t => By (xorByte key nonce ctr msg t)) := by rw [hW0]; exact hO.drew
        have hC0 : Cells W0 (some ⟨bb, ob, none⟩) (bl.map By) := by rw [hW0]; exact hC.below (below_drew _) (Nat.le_refl _)
        have hb0' : Below w.heap.size w W0 := by rw [hW0]; exact hbel.drew
        have hc1 : W0.cell? ⟨bm, om' + k, none⟩ = some (.int .u8 (x1.toNat : Int)) := by rw [hW0]; exact cell_later hm1 (below_drew _)
        have hc2 : W0.cell? ⟨bb, ob + i, none⟩ = some (.int .u8 (x2.toNat : Int)) := by rw [hW0]; exact cell_later hl2 (below_drew _)
        have hlt0 : bb < W0.heap.size := by rw [hW0]; exact hltb
        clear hW0 hO hC hbel hm1 hl2 hltb
        (refine pl_take (d := 51) (v := ?_) rfl rfl rfl ?_ ?_; rotate_left; (focus ((intro w' hb0 hw'; go_simp) <;> with_reducible rfl)); simp only [Act.put, List.setIfInBounds_toArray, List.set_cons_zero, List.set_cons_succ])
        (refine pl_take (d := 52) (v := ?_) rfl rfl rfl ?_ ?_; rotate_left; (focus ((intro w' hb0 hw'; go_simp) <;> with_reducible rfl)); simp only [Act.put, List.setIfInBounds_toArray, List.set_cons_zero, List.set_cons_succ])
        (refine pl_take (d := 53) (v := ?_) rfl rfl rfl ?_ ?_; rotate_left; (focus ((intro w' hb0 hw'; go_simp) <;> with_reducible rfl)); simp only [Act.put, List.setIfInBounds_toArray, List.set_cons_zero, List.set_cons_succ])
        (refine pl_take (d := 54) (v := ?_) rfl rfl rfl ?_ ?_; rotate_left; (focus ((intro w' hb0 hw'; go_simp) <;> with_reducible rfl)); simp only [Act.put, List.setIfInBounds_toArray, List.set_cons_zero, List.set_cons_succ])
        (refine pl_take (d := 55) (v := ?_) rfl rfl rfl ?_ ?_; rotate_left; (focus ((intro w' hb0 hw'; have hb9 : Below w.heap.size W0 w' := hb0; have c1 := (hb9.cell (p := ⟨bm, om' + k, none⟩) hbm).trans hc1; go_simp) <;> with_reducible rfl)); simp only [Act.put, List.setIfInBounds_toArray, List.set_cons_zero, List.set_cons_succ])
        (refine pl_take (d := 56) (v := ?_) rfl rfl rfl ?_ ?_; rotate_left; (focus ((intro w' hb0 hw'; go_simp) <;> with_reducible rfl)); simp only [Act.put, List.setIfInBounds_toArray, List.set_cons_zero, List.set_cons_succ])
        (refine pl_take (d := 57) (v := ?_) rfl rfl rfl ?_ ?_; rotate_left; (focus ((intro w' hb0 hw'; go_simp) <;> with_reducible rfl)); simp only [Act.put, List.setIfInBounds_toArray, List.set_cons_zero, List.set_cons_succ])
        (refine pl_take (d := 58) (v := ?_) rfl rfl rfl ?_ ?_; rotate_left; (focus ((intro w' hb0 hw'; go_simp) <;> with_reducible rfl)); simp only [Act.put, List.setIfInBounds_toArray, List.set_cons_zero, List.set_cons_succ])
        (refine pl_take (d := 59) (v := ?_) rfl rfl rfl ?_ ?_; rotate_left; (focus ((intro w' hb0 hw'; go_simp) <;> with_reducible rfl)); simp only [Act.put, List.setIfInBounds_toArray, List.set_cons_zero, List.set_cons_succ])
        refine pl_one rfl rfl (fun K hK => ?_)
        go_simp
        refine hK _ _ (Below.refl _ _ : Below w.heap.size W0 _) ?_
        clear hK
        (refine pl_take (d := 61) (v := ?_) rfl rfl rfl ?_ ?_; rotate_left; (focus ((intro w' hb0 hw'; go_simp) <;> with_reducible rfl)); simp only [Act.put, List.setIfInBounds_toArray, List.set_cons_zero, List.set_cons_succ])
        refine pl_one rfl rfl (fun K hK => ?_)
        go_simp
        refine hK _ _ ((Below.refl _ _).alloc hb0'.size _ : Below w.heap.size W0 _) ?_
        clear hK
        have hO1 := hO0.alloc (.cells [Value.int .u8 (y.toNat : Int)].toArray 5)
        have hN1 := Blk.new W0 [Value.int .u8 (y.toNat : Int)] 5
        have hC1 := hC0.alloc (.cells [Value.int .u8 (y.toNat : Int)].toArray 5)
        have hb1 := hb0'.alloc hb0'.size (.cells [Value.int .u8 (y.toNat : Int)].toArray 5)
        have hz1 := hb1.size
        have hlt1 : bb < (W0.alloc (.cells [Value.int .u8 (y.toNat : Int)].toArray 5)).heap.size := by simp; omega
        clear hO0 hC0 hb0'
        generalize W0.alloc (.cells [Value.int .u8 (y.toNat : Int)].toArray 5) = W1 at *
        refine pl_one rfl rfl (fun K hK => ?_)
        refine wp_app_at el27 (by rfl) (by rfl) hO1 (by rfl) (m := 1) rfl hN1.cells (by simp [Value.oneCell']) (by omega) (by simp [maxLen]; omega) (by omega) hz1 ?_
        intro g' cap' W2 hO2 hg2 hgg
        have hC2 : Cells W2 (some ⟨bb, ob, none⟩) (bl.map By) := hC1.grown hg2 (by intro a ha; cases ha; exact hne)
        have hb2 := hO1.below hg2 hb1 (Nat.le_refl _) hz1
        have hlt2 : bb < W2.heap.size := Nat.lt_of_lt_of_le hlt1 hg2.size
        have hne2 : ¬ g' = bb := by
          rintro rfl
          rcases hgg with h | h
          · exact hne h
          · omega
        refine hK _ _ (hO1.below hg2 (Below.refl _ _) (Nat.le_refl _) hz1 : Below w.heap.size W1 W2) ?_
        clear hK hO1 hN1 hC1 hb1 hg2 hgg hz1 hlt1
        (refine pl_take (d := 11) (v := ?_) rfl rfl rfl ?_ ?_; rotate_left; (focus ((intro w' hb0 hw'; go_simp) <;> with_reducible rfl)); simp only [Act.put, List.setIfInBounds_toArray, List.set_cons_zero, List.set_cons_succ])
        refine pl_end ?_
        have HO2 := Lib.hid hO2; have HC2 := Lib.hid hC2; have HB2 := Lib.hid hb2
        clear hO2 hC2 hb2
        go_wp2
        refine ⟨?_, ?measureX⟩
        rotate_left
        · (simp [intOf]) <;> omega
        have hij := HIJ.out
        have hfin : XRel w key nonce ctr msg (.slice (some ⟨g', 0, none⟩) (k + 1) cap') (.slice (some ⟨bb, ob, none⟩) 64 cb) (.int .i64 ((k : Int) + 1)) W2 := by
          refine ⟨k + 1, by omega, by go_num, Lib.hid ?_, HB2, fun hne0 => ⟨bb, ob, cb, rfl, hlt2, fun e => hne2 (by simpa [Value.ownBlock] using e), Lib.hid ?_⟩⟩
          · have := HO2.out
            rw [List.range_succ, List.map_append, List.map_singleton, HV.out]
            exact this
          · have := HC2.out
            rw [show (k + 1) / 64 = j by omega, ← HBL.out]
            exact this
        first
          | exact hfin
          | ((repeat apply Exists.intro); exact ⟨hfin, rfl⟩)
      · obtain ⟨bb, ob, cb, rfl, hltb, hne, hC⟩ := hB (by rw [hi]; exact h0)
        rw [hj] at hC
        have h0' : ¬ (i : Int) = 0 := by omega
        have hO := hO.out; have hbel := hbel.out; have hC := hC.out
        have hm1 := cell_later hm0 hbel
        obtain ⟨bl, hbl⟩ : ∃ bl, blockM (firstM key nonce (ctr + UInt32.ofNat j)) = bl := ⟨_, rfl⟩
        rw [hbl] at hC hlb
        have hibl : i < bl.length := by omega
        have hxb := hxb0 bl hbl.symm
        have hbl : bl = blockM (firstM key nonce (ctr + UInt32.ofNat j)) := hbl.symm
        clear hm0 hB hxb0 hi hj
        have hx2 : ∃ x, bl[i]'hibl = x := ⟨_, rfl⟩
        obtain ⟨x2, hx2⟩ := hx2
        have hl2 : wr.cell? ⟨bb, ob + i, none⟩ = some (.int .u8 (x2.toNat : Int)) := by
          obtain ⟨b', o', he, -, hc'⟩ := hC.bytes (i := i) hibl
          obtain ⟨rfl, rfl⟩ : bb = b' ∧ ob = o' := by simpa using he
          rw [hc', hx2]
        have rx := bits_xor_u8 x1 x2
        obtain ⟨y, hy⟩ : ∃ y, x1 ^^^ x2 = y := ⟨_, rfl⟩
        rw [hy] at rx
        have HV : Hid (xorByte key nonce ctr msg k = y) := by
          have h := hxb hibl
          rw [hx1, hx2, hy] at h
          exact h
        have HBL := Lib.hid hbl
        clear hy hxb hx1 hx2 hbl
        go_wp2
        refine wp_region_plan (some w.heap.size) [] [] (.take 0 (.take 1 (.take 2 (.take 3 (.take 4 (.take 5 (.take 6 (.take 7 (.take 8 (.one 9 (.take 10 (.one 11 (.one 12 (.take 13 .done)))))))))))))) (by kernel_rfl) (by kernel_rfl) (fun _ _ dd _ _ h => by cases dd <;> exact h) ?_
        intro W0 hW0
        have hO0 : Own W0 w.heap.size 5 1 u11 k ((List.range k).map fun t => By (xorByte key nonce ctr msg t)) := by rw [hW0]; exact hO.drew
        have hC0 : Cells W0 (some ⟨bb, ob, none⟩) (bl.map By) := by rw [hW0]; exact hC.below (below_drew _) (Nat.le_refl _)
        have hb0' : Below w.heap.size w W0 := by rw [hW0]; exact hbel.drew
        have hc1 : W0.cell? ⟨bm, om' + k, none⟩ = some (.int .u8 (x1.toNat : Int)) := by rw [hW0]; exact cell_later hm1 (below_drew _)
        have hc2 : W0.cell? ⟨bb, ob + i, none⟩ = some (.int .u8 (x2.toNat : Int)) := by rw [hW0]; exact cell_later hl2 (below_drew _)
        have hlt0 : bb < W0.heap.size := by rw [hW0]; exact hltb
        clear hW0 hO hC hbel hm1 hl2 hltb
        (refine pl_take (d := 51) (v := ?_) rfl rfl rfl ?_ ?_; rotate_left; (focus ((intro w' hb0 hw'; go_simp) <;> with_reducible rfl)); simp only [Act.put, List.setIfInBounds_toArray, List.set_cons_zero, List.set_cons_succ])
        (refine pl_take (d := 52) (v := ?_) rfl rfl rfl ?_ ?_; rotate_left; (focus ((intro w' hb0 hw'; go_simp) <;> with_reducible rfl)); simp only [Act.put, List.setIfInBounds_toArray, List.set_cons_zero, List.set_cons_succ])
        (refine pl_take (d := 53) (v := ?_) rfl rfl rfl ?_ ?_; rotate_left; (focus ((intro w' hb0 hw'; go_simp) <;> with_reducible rfl)); simp only [Act.put, List.setIfInBounds_toArray, List.set_cons_zero, List.set_cons_succ])
        (refine pl_take (d := 54) (v := ?_) rfl rfl rfl ?_ ?_; rotate_left; (focus ((intro w' hb0 hw'; go_simp) <;> with_reducible rfl)); simp only [Act.put, List.setIfInBounds_toArray, List.set_cons_zero, List.set_cons_succ])
        (refine pl_take (d := 55) (v := ?_) rfl rfl rfl ?_ ?_; rotate_left; (focus ((intro w' hb0 hw'; have hb9 : Below w.heap.size W0 w' := hb0; have c1 := (hb9.cell (p := ⟨bm, om' + k, none⟩) hbm).trans hc1; go_simp) <;> with_reducible rfl)); simp only [Act.put, List.setIfInBounds_toArray, List.set_cons_zero, List.set_cons_succ])
        (refine pl_take (d := 56) (v := ?_) rfl rfl rfl ?_ ?_; rotate_left; (focus ((intro w' hb0 hw'; go_simp) <;> with_reducible rfl)); simp only [Act.put, List.setIfInBounds_toArray, List.set_cons_zero, List.set_cons_succ])
        (refine pl_take (d := 57) (v := ?_) rfl rfl rfl ?_ ?_; rotate_left; (focus ((intro w' hb0 hw'; go_simp) <;> with_reducible rfl)); simp only [Act.put, List.setIfInBounds_toArray, List.set_cons_zero, List.set_cons_succ])
        (refine pl_take (d := 58) (v := ?_) rfl rfl rfl ?_ ?_; rotate_left; (focus ((intro w' hb0 hw'; go_simp) <;> with_reducible rfl)); simp only [Act.put, List.setIfInBounds_toArray, List.set_cons_zero, List.set_cons_succ])
        (refine pl_take (d := 59) (v := ?_) rfl rfl rfl ?_ ?_; rotate_left; (focus ((intro w' hb0 hw'; go_simp) <;> with_reducible rfl)); simp only [Act.put, List.setIfInBounds_toArray, List.set_cons_zero, List.set_cons_succ])
        refine pl_one rfl rfl (fun K hK => ?_)
        go_simp
        refine hK _ _ (Below.refl _ _ : Below w.heap.size W0 _) ?_
        clear hK
        (refine pl_take (d := 61) (v := ?_) rfl rfl rfl ?_ ?_; rotate_left; (focus ((intro w' hb0 hw'; go_simp) <;> with_reducible rfl)); simp only [Act.put, List.setIfInBounds_toArray, List.set_cons_zero, List.set_cons_succ])
        refine pl_one rfl rfl (fun K hK => ?_)
        go_simp
        refine hK _ _ ((Below.refl _ _).alloc hb0'.size _ : Below w.heap.size W0 _) ?_
        clear hK
        have hO1 := hO0.alloc (.cells [Value.int .u8 (y.toNat : Int)].toArray 5)
        have hN1 := Blk.new W0 [Value.int .u8 (y.toNat : Int)] 5
        have hC1 := hC0.alloc (.cells [Value.int .u8 (y.toNat : Int)].toArray 5)
        have hb1 := hb0'.alloc hb0'.size (.cells [Value.int .u8 (y.toNat : Int)].toArray 5)
        have hz1 := hb1.size
        have hlt1 : bb < (W0.alloc (.cells [Value.int .u8 (y.toNat : Int)].toArray 5)).heap.size := by simp; omega
        clear hO0 hC0 hb0'
        generalize W0.alloc (.cells [Value.int .u8 (y.toNat : Int)].toArray 5) = W1 at *
        refine pl_one rfl rfl (fun K hK => ?_)
        refine wp_app_at el27 (by rfl) (by rfl) hO1 (by rfl) (m := 1) rfl hN1.cells (by simp [Value.oneCell']) (by omega) (by simp [maxLen]; omega) (by omega) hz1 ?_
        intro g' cap' W2 hO2 hg2 hgg
        have hC2 : Cells W2 (some ⟨bb, ob, none⟩) (bl.map By) := hC1.grown hg2 (by intro a ha; cases ha; exact hne)
        have hb2 := hO1.below hg2 hb1 (Nat.le_refl _) hz1
        have hlt2 : bb < W2.heap.size := Nat.lt_of_lt_of_le hlt1 hg2.size
        have hne2 : ¬ g' = bb := by
          rintro rfl
          rcases hgg with h | h
          · exact hne h
          · omega
        refine hK _ _ (hO1.below hg2 (Below.refl _ _) (Nat.le_refl _) hz1 : Below w.heap.size W1 W2) ?_
        clear hK hO1 hN1 hC1 hb1 hg2 hgg hz1 hlt1
        (refine pl_take (d := 11) (v := ?_) rfl rfl rfl ?_ ?_; rotate_left; (focus ((intro w' hb0 hw'; go_simp) <;> with_reducible rfl)); simp only [Act.put, List.setIfInBounds_toArray, List.set_cons_zero, List.set_cons_succ])
        refine pl_end ?_
        have HO2 := Lib.hid hO2; have HC2 := Lib.hid hC2; have HB2 := Lib.hid hb2
        clear hO2 hC2 hb2
        go_wp2
        refine ⟨?_, ?measureY⟩
        rotate_left
        · (simp [intOf]) <;> omega
        have hij := HIJ.out
        have hfin : XRel w key nonce ctr msg (.slice (some ⟨g', 0, none⟩) (k + 1) cap') (.slice (some ⟨bb, ob, none⟩) 64 cb) (.int .i64 ((k : Int) + 1)) W2 := by
          refine ⟨k + 1, by omega, by go_num, Lib.hid ?_, HB2, fun hne0 => ⟨bb, ob, cb, rfl, hlt2, fun e => hne2 (by simpa [Value.ownBlock] using e), Lib.hid ?_⟩⟩
          · have := HO2.out
            rw [List.range_succ, List.map_append, List.map_singleton, HV.out]
            exact this
          · have := HC2.out
            rw [show (k + 1) / 64 = j by omega, ← HBL.out]
            exact this
        first
          | exact hfin
          | ((repeat apply Exists.intro); exact ⟨hfin, rfl⟩)
    · obtain rfl : k = msg.length := by omega
      obtain ⟨oa, cc, rfl, hnc, hcm, hcells, -⟩ := hO.out.cells
      have hb1 := hbel.out
      have hirr : ¬ ((msg.length : Int) < (msg.length : Int)) := by omega
      clear hO hbel hB hk hlt
      go_wp2
      refine bodyPost_ret (v := .tuple #[.slice oa msg.length cc, .int .i64 0]) (by simp [results, Try.results13, go_sem]) rfl ⟨oa, msg.length, cc, rfl, ⟨by simp [HX.out], ?_⟩, hnc, hcm, hb1⟩
      rw [HX.out, List.map_map]
      exact hcells
end Go.Proofs.Ytliemmdadfpdjaa
