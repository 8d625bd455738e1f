/-
  The law's walk: what a pool tells to any deeds.
-/
import Derived.Test.YtfeebleplmophaaWj
import Derived.Test.YtfeebleplmophaaPlan3
import Derived.Test.YtfeebleplmophaaBig
namespace Go.Proofs.Ytfeebleplmophaa
open Go.RowKit Go.Proofs.Ytfeebleplmophaa.Plan3 Go.Proofs.Ytfeebleplmophaa.Eager
set_option maxHeartbeats 2000000
set_option maxRecDepth 20000
set_option linter.unusedVariables false
set_option linter.unusedSimpArgs false

/-- a deed -/
structure Dd where
  kind : Int
  many : Int
  n : Nat
def Dd.cells (d : Dd) : List Value := [.int .i64 d.kind, .int .i64 d.many, UV d.n]
/-- both pools side by side -/
structure BothE (w0 w : World) (p x : Nat) (og om ol oa : Option Nat) (s : St) : Prop where
  pool : Pool w p og om s.S s.L s.nx
  ref : Ref w x ol oa s.S s.L
  bel : Below w0.heap.size w0 w
  pge : ∀ k ∈ foot p og om, w0.heap.size ≤ k
  xge : ∀ k ∈ foot x ol oa, w0.heap.size ≤ k
  dis : ∀ k ∈ foot p og om, k ∉ foot x ol oa
def Both (w0 w : World) (p x : Nat) (s : St) : Prop := ∃ og om ol oa, BothE w0 w p x og om ol oa s
section
variable {w0 w w1 w2 : World} {p x : Nat} {og om ol oa : Option Nat} {s : St}
theorem BothE.below (h : BothE w0 w p x og om ol oa s) (hb : Below w.heap.size w w1) : BothE w0 w1 p x og om ol oa s :=
  ⟨h.pool.kept (F := []) (Kept.of_below hb) (fun x _ hx => by cases hx), h.ref.kept (F := []) (Kept.of_below hb) (fun x _ hx => by cases hx), below_step h.bel hb, h.pge, h.xge, h.dis⟩
theorem BothE.ref1 (h : BothE w0 w p x og om ol oa s) (hk : Kept (foot p og om) w w1) : Ref w1 x ol oa s.S s.L :=
  h.ref.kept hk (fun k hk hk2 => h.dis k hk2 hk)
theorem BothE.fin (h : BothE w0 w p x og om ol oa s) {S L : List Nat} {nx : Nat} {og' om' : Option Nat} (hp : Pool w1 p og' om' S L nx) (hk : Kept (foot p og om) w w1) (hg : New w og og') (hm : New w om om') (hr : RefTo w1 x ol oa S L w2) : Both w0 w2 p x ⟨S, L, nx⟩ := by
  obtain ⟨ol', oa', r1, r2, r3, r4⟩ := hr
  have hxl := h.ref.lt
  have hd : ∀ k ∈ foot p og' om', k ∉ foot x ol oa := fun k hk1 hk2 => by
    rcases foot_new hg hm k hk1 with e | e
    · exact h.dis k e hk2
    · have := hxl k hk2; omega
  have hpl := hp.lt
  refine ⟨og', om', ol', oa', hp.kept r2 hd, r1, r2.below (hk.below h.bel h.bel.size h.pge) (Nat.le_trans h.bel.size hk.size) h.xge, fun k hk1 => ?_, fun k hk1 => ?_, fun k hk1 hk2 => ?_⟩
  · rcases foot_new hg hm k hk1 with e | e
    · exact h.pge k e
    · have := h.bel.size; omega
  · rcases foot_new r3 r4 k hk1 with e | e
    · exact h.xge k e
    · have := h.bel.size; have := hk.size; omega
  · rcases foot_new r3 r4 k hk2 with e | e
    · exact hd k hk1 e
    · have := hpl k hk1; omega
theorem BothE.one (h : BothE w0 w p x og om ol oa s) : Both w0 w p x s := ⟨og, om, ol, oa, h⟩
end
/-- what of a region's world stays -/
theorem kp_alloc {n : Nat} {F : List Nat} {w : World} (o : Obj) (hn : n ≤ w.heap.size) : (kpBut n F).r w (w.alloc o) :=
  ⟨(Below.refl 0 w).alloc (Nat.zero_le _) o, fun k hk _ => heap_alloc_old w o (by omega)⟩
theorem kp_kept {n : Nat} {F G : List Nat} {w w' : World} (h : Kept G w w') (hn : n ≤ w.heap.size) (hG : ∀ k ∈ G, k ∈ F ∨ n ≤ k) : (kpBut n F).r w w' :=
  ⟨h.base, fun k hk hF => h.block k (by omega) (fun hx => by rcases hG k hx with e | e; exact hF e; omega)⟩

theorem Inv.lay {s : St} (h : Inv s) (n : Nat) (hn : n < 18446744073709551616) : Inv ⟨layS s.S n, layL s.S s.L n, s.nx⟩ := by
  unfold layS layL
  by_cases h0 : n = 0
  · rw [if_pos h0, if_pos h0]; exact h
  · rw [if_neg h0, if_neg h0]
    by_cases h1 : n ∈ s.S
    · rw [if_pos h1, if_pos h1]; exact h
    · rw [if_neg h1, if_neg h1]
      refine ⟨h.ge, fun k hk hk2 => List.mem_append_left _ (h.all k hk hk2), fun y hy => ?_, fun y hy => ?_, fun y hy => ?_⟩
      · rcases List.mem_append.1 hy with e | e
        · exact List.mem_append_left _ (h.sub y e)
        · exact List.mem_append_right _ e
      · rcases List.mem_append.1 hy with e | e
        · exact h.u64 y e
        · rw [List.mem_singleton.1 e]; exact hn
      · rcases List.mem_append.1 hy with e | e
        · exact h.nz y e
        · rw [List.mem_singleton.1 e]; exact h0
theorem lay_len (S L : List Nat) (n : Nat) : (layS S n).length ≤ S.length + 1 ∧ (layL S L n).length ≤ L.length + 1 := by
  unfold layS layL
  split
  · exact ⟨by omega, by omega⟩
  · split
    · exact ⟨by omega, by omega⟩
    · exact ⟨by simp, by simp⟩
/-- how far a pool may have gone behind so many deeds -/
structure Far (s : St) (k : Nat) : Prop where
  inv : Inv s
  S : s.S.length ≤ 64 * k
  L : s.L.length ≤ k

theorem drawsPlay3 (l : List Dd) (w : World) (oa0 : Option Addr) (n c : Nat) (h : RowsOf Dd.cells w oa0 n l) (hu : ∀ d ∈ l, d.n < 18446744073709551616) :
    Calls Try.prog 3 #[.slice oa0 n c] w fun r w' => r = .returned (.bool true) ∧ Below w.heap.size w w' := by
  obtain rfl : n = l.length := h.len
  have H := Lib.hid h; have HU := Lib.hid hu
  clear h hu
  by_cases hl : (40 : Int) < (l.length : Int)
  · go_enter Try.func3, Try.ntmps3
    go_wp2_with fail
    refine (works5 _).mono ?_
    rintro r w1 ⟨rfl, hb⟩
    have HB := Lib.hid hb
    clear hb
    go_wp2
    refine bodyPost_ret (v := .bool true) (by simp [results, Try.results3, go_sem]) rfl ⟨rfl, HB.out⟩
  have HL : Hid (l.length ≤ 40) := by show _ ≤ _; omega
  go_enter Try.func3, Try.ntmps3
  go_wp2_with fail
  refine (new6 w).mono ?_
  rintro r w1 ⟨rfl, hP, hb⟩
  have hsz := hb.size
  have hpl := hP.lt w.heap.size (mem_foot.2 (.inl rfl))
  have HBO : Hid (Both w (w1.alloc (.cells #[.slice none 0 0, .slice none 0 0] 29)) w.heap.size w1.heap.size ⟨[], [], 9223372036854775808⟩) := by
    refine ⟨none, none, none, none, hP.kept (F := []) (Kept.alloc _) (fun x _ hx => by cases hx), ⟨⟨.slice none 0 0, .slice none 0 0, Blk.new' rfl, Que.nil _, Que.nil _⟩, by simp, by simp, by simp⟩, hb.alloc hsz _, fun k hk => ?_, fun k hk => ?_, fun k hk hk2 => ?_⟩
    · rcases mem_foot.1 hk with rfl | e | e
      · exact Nat.le_refl _
      · cases e
      · cases e
    · rcases mem_foot.1 hk with rfl | e | e
      · exact hsz
      · cases e
      · cases e
    · rcases mem_foot.1 hk with rfl | e | e
      · rcases mem_foot.1 hk2 with e | e | e
        · omega
        · cases e
        · cases e
      · cases e
      · cases e
  obtain ⟨p, hp⟩ : ∃ p, w.heap.size = p := ⟨_, rfl⟩
  have HFA : Hid (Far ⟨[], [], 9223372036854775808⟩ 0) := ⟨⟨Nat.le_refl _, fun k h1 h2 => by simp only at h2; omega, fun x hx => (by cases hx), fun x hx => (by cases hx), fun x hx => (by cases hx)⟩, Nat.zero_le _, Nat.zero_le _⟩
  have HPE := Lib.hid hp
  rw [hp] at HBO ⊢
  clear hP hb hsz hpl hp
  go_wp2_with fail
  obtain ⟨x, hx⟩ : ∃ x, w1.heap.size = x := ⟨_, rfl⟩
  rw [hx] at HBO ⊢
  clear hx
  go_wp2_with fail
  go_loopw [17] (fun u wr => ∃ k : Nat, k ≤ l.length ∧ u = .int .i64 k ∧ ∃ s, Hid (Both w wr p x s) ∧ Hid (Far s k)) (fun u _ => l.length - (intOf u).toNat)
  case atStart => exact ⟨0, by omega, rfl, _, HBO, HFA⟩
  case round =>
    obtain ⟨k, hk, rfl, s, hB, hF⟩ := hrel
    by_cases hlt : k < l.length
    · have hk5 : (k : Int) < (l.length : Int) := by omega
      have rk : IntKind.i64.wrap ((k : Int) + 1) = ((k + 1 : Nat) : Int) := by rw [IntKind.wrap_i64]; omega
      obtain ⟨og, om, ol, oa, hE⟩ := hB.out
      obtain ⟨b1, p1, rfl, hA⟩ := (H.out.below (by rw [HPE.out]; have := hE.bel; rw [HPE.out] at this; exact this)).at_ (k := 3) (fun _ => rfl) (by omega) hlt
      have hdn := HU.out l[k] (List.getElem_mem hlt)
      obtain ⟨d, hd⟩ : ∃ d, l[k] = d := ⟨_, rfl⟩
      rw [hd] at hA hdn
      obtain ⟨kind, many, n⟩ := d
      have hal1 := hA.lt
      have d0 : wr.cell? ⟨b1, p1 + k * 3, none⟩ = some (.int .i64 kind) := hA.get 0 (by simp [Dd.cells])
      have d1 : wr.cell? ⟨b1, p1 + k * 3 + 1, none⟩ = some (.int .i64 many) := hA.get 1 (by simp [Dd.cells])
      have d2 : wr.cell? ⟨b1, p1 + k * 3 + 2, none⟩ = some (.int .u64 (n : Int)) := hA.get 2 (by simp [Dd.cells])
      have HE := Lib.hid hE; have HF := hF; have HDN : Hid (n < 18446744073709551616) := hdn
      have HLT := Lib.hid hlt
      obtain ⟨wA, rfl⟩ : ∃ q, q = wr := ⟨_, rfl⟩
      clear hd hA hE hF hB hdn hlt
      have HFIN : Hid (∀ wr' u, u = Value.int .i64 ((k : Int) + 1) → ∀ s', Both w wr' p x s' → Far s' (k + 1) → ∃ k' : Nat, k' ≤ l.length ∧ u = .int .i64 k' ∧ ∃ s, Hid (Both w wr' p x s) ∧ Hid (Far s k')) :=
        fun wr' u hu s' h1 h2 => ⟨k + 1, by have := HLT.out; omega, by rw [hu]; rfl, s', Lib.hid h1, Lib.hid h2⟩
      have hT : Blk (wA.alloc (.cells #[.int .i64 kind, .int .i64 many, .int .u64 (n : Int)] 32)) wA.heap.size [.int .i64 kind, .int .i64 many, .int .u64 (n : Int)] := Blk.new' rfl
      have hEa : BothE w (wA.alloc (.cells #[.int .i64 kind, .int .i64 many, .int .u64 (n : Int)] 32)) p x og om ol oa s := HE.out.below ((Below.refl _ _).alloc (Nat.le_refl _) _)
      have hTF : wA.heap.size ∉ foot p og om ++ foot x ol oa := fun hm => by
        rcases List.mem_append.1 hm with e | e
        · have := HE.out.pool.lt _ e; omega
        · have := HE.out.ref.lt _ e; omega
      have HT := Lib.hid hT; have HEA := Lib.hid hEa; have HTF := Lib.hid hTF
      clear hT hEa hTF HE
      have hSb : s.S.length ≤ 2560 := by have h1 := HF.out.S; have h2 := HL.out; omega
      have hLb : s.L.length ≤ 40 := by have h1 := HF.out.L; have h2 := HL.out; omega
      have HSL := Lib.hid (And.intro hSb hLb)
      have HKL : Hid (k ≤ 40) := by show _ ≤ _; have h2 := HL.out; omega
      clear hSb hLb hk
      by_cases hk0 : kind = 0
      · subst hk0
        go_wp2_with fail
        generalize hWB : wA.alloc (.cells #[.int .i64 0, .int .i64 many, .int .u64 (n : Int)] 32) = WB at *
        have hTl : wA.heap.size < WB.heap.size := HT.out.lt
        generalize wA.heap.size = T at *
        refine wp_region_plan (kpBut WB.heap.size (foot p og om ++ foot x ol oa)) [] [] (.take 0 (.take 1 (.take 2 (.take 4 (.take 5 (.take 6 (.one 3 (.one 7 (.take 8 (.take 9 .done)))))))))) (by kernel_rfl) (by kernel_rfl) (fun _ _ dd _ _ h => by cases dd <;> exact h) ?_
        intro W0 hW0
        have hE : BothE w W0 p x og om ol oa s := by rw [hW0]; exact HEA.out.below (below_drew WB)
        have hn : WB.heap.size ≤ W0.heap.size := by rw [hW0]; exact Nat.le_refl _
        have hT0 : W0.cell? ⟨T, 2, none⟩ = some (.int .u64 (n : Int)) := by rw [hW0]; exact HT.out.at' 2 (by simp)
        have hT1 : W0.cell? ⟨T, 1, none⟩ = some (.int .i64 many) := by rw [hW0]; exact HT.out.at' 1 (by simp)
        have hTF := HTF.out
        clear hW0 HT HEA HTF
        (refine pl_take (d := 34) (v := ?_) rfl rfl rfl ?_ ?_; rotate_left; (focus ((intro w' hb0 hw'; go_simp) <;> with_reducible rfl)); simp only [Act.put, List.setIfInBounds_toArray, List.set_cons_zero, List.set_cons_succ])
        (refine pl_take (d := 35) (v := ?_) rfl rfl rfl ?_ ?_; rotate_left; (focus ((intro w' hb0 hw'; go_simp) <;> with_reducible rfl)); simp only [Act.put, List.setIfInBounds_toArray, List.set_cons_zero, List.set_cons_succ])
        (refine pl_take (d := 36) (v := ?_) rfl rfl rfl ?_ ?_; rotate_left; (focus ((intro w' hb0 hw'; have q2 : w'.cell? ⟨T, 2, none⟩ = some (.int .u64 (n : Int)) := (World.cell?_of_block ((show (kpBut _ _).r _ _ from hb0).2 T hTl hTF)).trans hT0; have q3 : T < w'.heap.size := Nat.lt_of_lt_of_le (Nat.lt_of_lt_of_le hTl hn) (show (kpBut _ _).r _ _ from hb0).1.size; go_simp) <;> with_reducible rfl)); simp only [Act.put, List.setIfInBounds_toArray, List.set_cons_zero, List.set_cons_succ])
        (refine pl_take (d := 38) (v := ?_) rfl rfl rfl ?_ ?_; rotate_left; (focus ((intro w' hb0 hw'; go_simp) <;> with_reducible rfl)); simp only [Act.put, List.setIfInBounds_toArray, List.set_cons_zero, List.set_cons_succ])
        (refine pl_take (d := 39) (v := ?_) rfl rfl rfl ?_ ?_; rotate_left; (focus ((intro w' hb0 hw'; go_simp) <;> with_reducible rfl)); simp only [Act.put, List.setIfInBounds_toArray, List.set_cons_zero, List.set_cons_succ])
        (refine pl_take (d := 40) (v := ?_) rfl rfl rfl ?_ ?_; rotate_left; (focus ((intro w' hb0 hw'; have q2 : w'.cell? ⟨T, 2, none⟩ = some (.int .u64 (n : Int)) := (World.cell?_of_block ((show (kpBut _ _).r _ _ from hb0).2 T hTl hTF)).trans hT0; have q3 : T < w'.heap.size := Nat.lt_of_lt_of_le (Nat.lt_of_lt_of_le hTl hn) (show (kpBut _ _).r _ _ from hb0).1.size; go_simp) <;> with_reducible rfl)); simp only [Act.put, List.setIfInBounds_toArray, List.set_cons_zero, List.set_cons_succ])
        refine pl_one rfl rfl (fun K hK => ?_)
        go_simp
        refine (lay7 p og om s.S s.L s.nx n W0 hE.pool HDN.out (by have := HSL.out.1; omega) (by have := HSL.out.2; omega)).mono ?_
        rintro r Wv ⟨rfl, og', om', hp1, hk1, hg1, hm1⟩
        refine hK _ _ (kp_kept hk1 hn (fun k hk => .inl (List.mem_append_left _ hk))) ?_
        clear hK
        have hr1 := hE.ref1 hk1
        have hnv := Nat.le_trans hn hk1.size
        refine pl_one rfl rfl (fun K hK => ?_)
        go_simp
        refine (refLay8 x ol oa s.S s.L n Wv hr1 (by have := HSL.out.1; omega) (by have := HSL.out.2; omega)).mono ?_
        rintro r Wu ⟨rfl, hr2⟩
        have hfin := hE.fin hp1 hk1 hg1 hm1 hr2
        obtain ⟨ol', oa', r1, r2, r3, r4⟩ := hr2
        refine hK _ _ (kp_kept r2 hnv (fun k hk => .inl (List.mem_append_right _ hk))) ?_
        clear hK
        refine pl_take (d := 42) (v := .bool true) rfl rfl rfl ?_ ?_
        · intro w' hb0 hw'
          go_simp
        simp only [Act.put, List.setIfInBounds_toArray, List.set_cons_zero, List.set_cons_succ]
        (refine pl_take (d := 7) (v := ?_) rfl rfl rfl ?_ ?_; rotate_left; (focus ((intro w' hb0 hw'; go_simp) <;> with_reducible rfl)); simp only [Act.put, List.setIfInBounds_toArray, List.set_cons_zero, List.set_cons_succ])
        refine pl_end ?_
        have HB1 := Lib.hid hfin
        clear hfin hp1 hk1 hg1 hm1 r1 r2 r3 r4 hr1 hE hT0 hT1
        go_wp2_with fail
        go_roundw
        case measure => have := HLT.out; simp [intOf]; omega
        case rel => exact HFIN.out _ _ rfl _ HB1.out ⟨HF.out.inv.lay n HDN.out, by have h1 := (lay_len s.S s.L n).1; have h2 := HF.out.S; simp only; omega, by have h1 := (lay_len s.S s.L n).2; have h2 := HF.out.L; simp only; omega⟩
      have h0 : (kind == 0) = false := beq_eq_false_iff_ne.2 hk0
      by_cases hk1 : kind = 1
      · subst hk1
        clear h0 hk0
        go_wp2_with fail
        generalize wA.alloc (.cells #[.int .i64 1, .int .i64 many, .int .u64 (n : Int)] 32) = WB at *
        refine (next9 p og om s WB HEA.out.pool HF.out.inv (by have := HSL.out.1; omega)).mono ?_
        rintro r Wv ⟨rfl, og', om', hp1, hk1, hg1, hm1⟩
        have HP1 := Lib.hid (And.intro hp1 (And.intro hk1 (And.intro hg1 hm1)))
        have HR1 := Lib.hid (HEA.out.ref1 hk1)
        clear hp1 hk1 hg1 hm1
        go_wp2_with fail
        refine (refNext10 x ol oa s Wv HR1.out HF.out.inv (by have := HSL.out.1; omega)).mono ?_
        rintro r Wu ⟨rfl, hr2⟩
        have HB1 := Lib.hid (HEA.out.fin HP1.out.1 HP1.out.2.1 HP1.out.2.2.1 HP1.out.2.2.2 hr2)
        clear hr2 HP1 HR1 HT HEA HTF
        go_wp2_with fail
        go_roundw
        case measure => have := HLT.out; simp [intOf]; omega
        case rel => exact HFIN.out _ _ rfl _ HB1.out ⟨HF.out.inv.next (by have := HSL.out.1; omega), by have h1 := s.next_len.1; have h2 := HF.out.S; show s.next.S.length ≤ _; omega, by have h1 := s.next_len.2; have h2 := HF.out.L; show s.next.L.length ≤ _; omega⟩
      have h1 : (kind == 1) = false := beq_eq_false_iff_ne.2 hk1
      by_cases hk2 : kind = 2
      · subst hk2
        clear h0 hk0 h1 hk1
        go_wp2_with fail
        generalize hWB : wA.alloc (.cells #[.int .i64 2, .int .i64 many, .int .u64 (n : Int)] 32) = WB at *
        have hTl : wA.heap.size < WB.heap.size := HT.out.lt
        generalize wA.heap.size = T at *
        refine wp_region_plan (kpBut WB.heap.size (foot p og om ++ foot x ol oa)) [] [] (.take 0 (.take 1 (.take 2 (.take 4 (.take 5 (.take 7 (.take 8 (.take 9 (.take 11 (.take 12 (.two 3 (.two 6 (.one 10 (.one 13 (.one 14 (.take 15 .done)))) 10 (.one 6 (.one 13 (.one 14 (.take 15 .done))))) 10 (.one 3 (.one 6 (.one 13 (.one 14 (.take 15 .done)))))))))))))))) (by kernel_rfl) (by kernel_rfl) (fun _ _ dd _ _ h => by cases dd <;> exact h) ?_
        intro W0 hW0
        have hE : BothE w W0 p x og om ol oa s := by rw [hW0]; exact HEA.out.below (below_drew WB)
        have hn : WB.heap.size ≤ W0.heap.size := by rw [hW0]; exact Nat.le_refl _
        have hT0 : W0.cell? ⟨T, 2, none⟩ = some (.int .u64 (n : Int)) := by rw [hW0]; exact HT.out.at' 2 (by simp)
        have hT1 : W0.cell? ⟨T, 1, none⟩ = some (.int .i64 many) := by rw [hW0]; exact HT.out.at' 1 (by simp)
        have hTF := HTF.out
        have HFP : Hid ((∀ k ∈ foot p og om, k < WB.heap.size) ∧ ∀ k ∈ foot x ol oa, k < WB.heap.size) := ⟨HEA.out.pool.lt, HEA.out.ref.lt⟩
        clear hW0 HT HEA HTF
        have hFp : ∀ k ∈ foot p og om, k < WB.heap.size := HFP.out.1
        have hFx : ∀ k ∈ foot x ol oa, k < WB.heap.size := HFP.out.2
        obtain ⟨CC, hCC⟩ : ∃ CC, (min many 64).toNat - [n].length = CC := ⟨_, rfl⟩
        have hC63 : CC ≤ 63 := by simp at hCC; omega
        obtain ⟨X, hX⟩ : ∃ X, [n] ++ s.outs CC = X := ⟨_, rfl⟩
        have hXl : X.length ≤ 1000000 := by rw [← hX, List.length_append, St.outs_len]; simp; omega
        generalize W0 = Wz at *
        (refine pl_take (d := 52) (v := ?_) rfl rfl rfl ?_ ?_; rotate_left; (focus ((intro w' hb0 hw'; go_simp) <;> with_reducible rfl)); simp only [Act.put, List.setIfInBounds_toArray, List.set_cons_zero, List.set_cons_succ])
        (refine pl_take (d := 53) (v := ?_) rfl rfl rfl ?_ ?_; rotate_left; (focus ((intro w' hb0 hw'; go_simp) <;> with_reducible rfl)); simp only [Act.put, List.setIfInBounds_toArray, List.set_cons_zero, List.set_cons_succ])
        (refine pl_take (d := 54) (v := ?_) rfl rfl rfl ?_ ?_; rotate_left; (focus ((intro w' hb0 hw'; have q2 : w'.cell? ⟨T, 2, none⟩ = some (.int .u64 (n : Int)) := (World.cell?_of_block ((show (kpBut _ _).r _ _ from hb0).2 T hTl hTF)).trans hT0; have q3 : T < w'.heap.size := Nat.lt_of_lt_of_le (Nat.lt_of_lt_of_le hTl hn) (show (kpBut _ _).r _ _ from hb0).1.size; go_simp) <;> with_reducible rfl)); simp only [Act.put, List.setIfInBounds_toArray, List.set_cons_zero, List.set_cons_succ])
        (refine pl_take (d := 56) (v := ?_) rfl rfl rfl ?_ ?_; rotate_left; (focus ((intro w' hb0 hw'; go_simp) <;> with_reducible rfl)); simp only [Act.put, List.setIfInBounds_toArray, List.set_cons_zero, List.set_cons_succ])
        (refine pl_take (d := 57) (v := ?_) rfl rfl rfl ?_ ?_; rotate_left; (focus ((intro w' hb0 hw'; have q2 : w'.cell? ⟨T, 1, none⟩ = some (.int .i64 many) := (World.cell?_of_block ((show (kpBut _ _).r _ _ from hb0).2 T hTl hTF)).trans hT1; have q3 : T < w'.heap.size := Nat.lt_of_lt_of_le (Nat.lt_of_lt_of_le hTl hn) (show (kpBut _ _).r _ _ from hb0).1.size; go_simp) <;> with_reducible rfl)); simp only [Act.put, List.setIfInBounds_toArray, List.set_cons_zero, List.set_cons_succ])
        (refine pl_take (d := 59) (v := ?_) rfl rfl rfl ?_ ?_; rotate_left; (focus ((intro w' hb0 hw'; go_simp) <;> with_reducible rfl)); simp only [Act.put, List.setIfInBounds_toArray, List.set_cons_zero, List.set_cons_succ])
        (refine pl_take (d := 60) (v := ?_) rfl rfl rfl ?_ ?_; rotate_left; (focus ((intro w' hb0 hw'; go_simp) <;> with_reducible rfl)); simp only [Act.put, List.setIfInBounds_toArray, List.set_cons_zero, List.set_cons_succ])
        (refine pl_take (d := 61) (v := ?_) rfl rfl rfl ?_ ?_; rotate_left; (focus ((intro w' hb0 hw'; have q2 : w'.cell? ⟨T, 2, none⟩ = some (.int .u64 (n : Int)) := (World.cell?_of_block ((show (kpBut _ _).r _ _ from hb0).2 T hTl hTF)).trans hT0; have q3 : T < w'.heap.size := Nat.lt_of_lt_of_le (Nat.lt_of_lt_of_le hTl hn) (show (kpBut _ _).r _ _ from hb0).1.size; go_simp) <;> with_reducible rfl)); simp only [Act.put, List.setIfInBounds_toArray, List.set_cons_zero, List.set_cons_succ])
        (refine pl_take (d := 63) (v := ?_) rfl rfl rfl ?_ ?_; rotate_left; (focus ((intro w' hb0 hw'; go_simp) <;> with_reducible rfl)); simp only [Act.put, List.setIfInBounds_toArray, List.set_cons_zero, List.set_cons_succ])
        (refine pl_take (d := 64) (v := ?_) rfl rfl rfl ?_ ?_; rotate_left; (focus ((intro w' hb0 hw'; have q2 : w'.cell? ⟨T, 1, none⟩ = some (.int .i64 many) := (World.cell?_of_block ((show (kpBut _ _).r _ _ from hb0).2 T hTl hTF)).trans hT1; have q3 : T < w'.heap.size := Nat.lt_of_lt_of_le (Nat.lt_of_lt_of_le hTl hn) (show (kpBut _ _).r _ _ from hb0).1.size; go_simp) <;> with_reducible rfl)); simp only [Act.put, List.setIfInBounds_toArray, List.set_cons_zero, List.set_cons_succ])
        refine pl_two rfl rfl rfl rfl (fun K hK => ?_) (fun K hK => ?_)
        · go_simp
          refine hK _ _ (kp_alloc _ hn) ?_
          clear hK
          have hal : Below Wz.heap.size Wz (Wz.alloc (.cells #[.int .u64 (n : Int)] 30)) := (Below.refl _ _).alloc (Nat.le_refl _) _
          have hka : Kept [] Wz (Wz.alloc (.cells #[.int .u64 (n : Int)] 30)) := Kept.alloc _
          have hS3 : Cells (Wz.alloc (.cells #[.int .u64 (n : Int)] 30)) (some ⟨Wz.heap.size, 0, none⟩) [UV n] := Cells.new (cs := [UV n])
          have hg3 : WB.heap.size ≤ Wz.heap.size := hn
          (try replace hS10 := hS10.kept hka (fun a _ hx => by cases hx))
          (try replace hE := hE.below hal)
          (try replace hr1 := hr1.kept hka (fun a _ hx => by cases hx))
          (try replace hp1 := hp1.kept hka (fun a _ hx => by cases hx))
          (try replace hk1 := hk1.trans hka (fun a hx => by cases hx))
          (try replace hc1 := hc1.kept hka (fun a _ hx => by cases hx))
          replace hn := Nat.le_trans hn hal.size
          clear hal hka
          generalize Wz.alloc (.cells #[.int .u64 (n : Int)] 30) = Wv at *
          generalize Wz.heap.size = g3 at *
          obtain ⟨Wz, rfl⟩ : ∃ q, q = Wv := ⟨_, rfl⟩
          refine pl_two rfl rfl rfl rfl (fun K hK => ?_) (fun K hK => ?_)
          · go_simp
            have HFI := fill12 p og om s [n] many Wz (some ⟨g3, 0, none⟩) 1 hE.pool HF.out.inv (by have := HSL.out.1; omega) (by have := HSL.out.2; omega) hS3 (by simp) (by simp)
            rw [hCC] at HFI
            refine HFI.mono ?_
            rintro r Wv ⟨ad1, cp1, e1, hc1, hge1, og', om', hp1, hk1, hg1, hm1, hap1⟩
            rw [hX] at e1 hc1
            subst e1
            refine hK _ _ (kp_kept hk1 hn (fun k hk => .inl (List.mem_append_left _ hk))) ?_
            clear hK HFI
            have hr1 := hE.ref1 hk1
            have hge2 : ∀ a, ad1 = some a → WB.heap.size ≤ a.block := fun a ha => Nat.le_trans hn (hge1 a ha)
            (try replace hS10 := hS10.kept hk1 (fun a ha hx => by cases ha; have := hFp _ hx; simp only at this; omega))
            replace hn := Nat.le_trans hn hk1.size
            clear hge1 hap1 hS3
            obtain ⟨Wz, rfl⟩ : ∃ q, q = Wv := ⟨_, rfl⟩
            refine pl_one rfl rfl (fun K hK => ?_)
            go_simp
            refine hK _ _ (kp_alloc _ hn) ?_
            clear hK
            have hal : Below Wz.heap.size Wz (Wz.alloc (.cells #[.int .u64 (n : Int)] 30)) := (Below.refl _ _).alloc (Nat.le_refl _) _
            have hka : Kept [] Wz (Wz.alloc (.cells #[.int .u64 (n : Int)] 30)) := Kept.alloc _
            have hS10 : Cells (Wz.alloc (.cells #[.int .u64 (n : Int)] 30)) (some ⟨Wz.heap.size, 0, none⟩) [UV n] := Cells.new (cs := [UV n])
            have hg10 : WB.heap.size ≤ Wz.heap.size := hn
            (try replace hS3 := hS3.kept hka (fun a _ hx => by cases hx))
            (try replace hE := hE.below hal)
            (try replace hr1 := hr1.kept hka (fun a _ hx => by cases hx))
            (try replace hp1 := hp1.kept hka (fun a _ hx => by cases hx))
            (try replace hk1 := hk1.trans hka (fun a hx => by cases hx))
            (try replace hc1 := hc1.kept hka (fun a _ hx => by cases hx))
            replace hn := Nat.le_trans hn hal.size
            clear hal hka
            generalize Wz.alloc (.cells #[.int .u64 (n : Int)] 30) = Wv at *
            generalize Wz.heap.size = g10 at *
            obtain ⟨Wz, rfl⟩ : ∃ q, q = Wv := ⟨_, rfl⟩
            refine pl_one rfl rfl (fun K hK => ?_)
            go_simp
            have HFI := refFill13 x ol oa s [n] many Wz (some ⟨g10, 0, none⟩) 1 hr1 HF.out.inv (by have := HSL.out.1; omega) (by have := HSL.out.2; omega) hS10 (by simp)
            rw [hCC] at HFI
            refine HFI.mono ?_
            rintro r Wv ⟨ad2, cp2, e1, hc2, hr2⟩
            rw [hX] at e1 hc2
            subst e1
            have hfin := hE.fin hp1 hk1 hg1 hm1 hr2
            obtain ⟨ol', oa', r1, r2, r3, r4⟩ := hr2
            refine hK _ _ (kp_kept r2 hn (fun k hk => .inl (List.mem_append_right _ hk))) ?_
            clear hK HFI
            have hc3 := hc1.kept r2 (fun a ha hx => by have := hge2 a ha; have := hFx _ hx; omega)
            have hn5 := Nat.le_trans hn r2.size
            clear hS10 r1 r2 r3 r4
            refine pl_one rfl rfl (fun K hK => ?_)
            go_simp
            refine (same11 X Wv ad1 ad2 cp1 cp2 hc3 hc2 hXl).mono ?_
            rintro r Wu ⟨rfl, hb2⟩
            refine hK _ _ (kp_kept (G := []) (Kept.of_below hb2) hn5 (fun k hk => by cases hk)) ?_
            clear hK
            have hfin2 : Both w Wu p x ⟨(s.runs CC).S, (s.runs CC).L, (s.runs CC).nx⟩ := by
              obtain ⟨_, _, _, _, hE9⟩ := hfin
              exact (hE9.below hb2).one
            (refine pl_take (d := 7) (v := ?_) rfl rfl rfl ?_ ?_; rotate_left; (focus ((intro w' hb0 hw'; go_simp) <;> with_reducible rfl)); simp only [Act.put, List.setIfInBounds_toArray, List.set_cons_zero, List.set_cons_succ])
            refine pl_end ?_
            have HB1 := Lib.hid hfin2
            have HC63 := Lib.hid hC63
            clear hfin hfin2 hb2 hE hT0 hT1 hp1 hk1 hg1 hm1 hc1 hc2 hc3 hr1 hC63 hX hXl hCC
            go_wp2_with fail
            go_roundw
            case measure => have := HLT.out; simp [intOf]; omega
            case rel => exact HFIN.out _ _ rfl _ HB1.out ⟨HF.out.inv.runs CC (by have h1 := HC63.out; have h2 := HSL.out.1; omega), by have h1 := (s.runs_len CC).1; have h2 := HF.out.S; have h3 := HC63.out; show (s.runs CC).S.length ≤ _; omega, by have h1 := (s.runs_len CC).2; have h2 := HF.out.L; show (s.runs CC).L.length ≤ _; omega⟩
          · go_simp
            refine hK _ _ (kp_alloc _ hn) ?_
            clear hK
            have hal : Below Wz.heap.size Wz (Wz.alloc (.cells #[.int .u64 (n : Int)] 30)) := (Below.refl _ _).alloc (Nat.le_refl _) _
            have hka : Kept [] Wz (Wz.alloc (.cells #[.int .u64 (n : Int)] 30)) := Kept.alloc _
            have hS10 : Cells (Wz.alloc (.cells #[.int .u64 (n : Int)] 30)) (some ⟨Wz.heap.size, 0, none⟩) [UV n] := Cells.new (cs := [UV n])
            have hg10 : WB.heap.size ≤ Wz.heap.size := hn
            (try replace hS3 := hS3.kept hka (fun a _ hx => by cases hx))
            (try replace hE := hE.below hal)
            (try replace hr1 := hr1.kept hka (fun a _ hx => by cases hx))
            (try replace hp1 := hp1.kept hka (fun a _ hx => by cases hx))
            (try replace hk1 := hk1.trans hka (fun a hx => by cases hx))
            (try replace hc1 := hc1.kept hka (fun a _ hx => by cases hx))
            replace hn := Nat.le_trans hn hal.size
            clear hal hka
            generalize Wz.alloc (.cells #[.int .u64 (n : Int)] 30) = Wv at *
            generalize Wz.heap.size = g10 at *
            obtain ⟨Wz, rfl⟩ : ∃ q, q = Wv := ⟨_, rfl⟩
            refine pl_one rfl rfl (fun K hK => ?_)
            go_simp
            have HFI := fill12 p og om s [n] many Wz (some ⟨g3, 0, none⟩) 1 hE.pool HF.out.inv (by have := HSL.out.1; omega) (by have := HSL.out.2; omega) hS3 (by simp) (by simp)
            rw [hCC] at HFI
            refine HFI.mono ?_
            rintro r Wv ⟨ad1, cp1, e1, hc1, hge1, og', om', hp1, hk1, hg1, hm1, hap1⟩
            rw [hX] at e1 hc1
            subst e1
            refine hK _ _ (kp_kept hk1 hn (fun k hk => .inl (List.mem_append_left _ hk))) ?_
            clear hK HFI
            have hr1 := hE.ref1 hk1
            have hge2 : ∀ a, ad1 = some a → WB.heap.size ≤ a.block := fun a ha => Nat.le_trans hn (hge1 a ha)
            (try replace hS10 := hS10.kept hk1 (fun a ha hx => by cases ha; have := hFp _ hx; simp only at this; omega))
            replace hn := Nat.le_trans hn hk1.size
            clear hge1 hap1 hS3
            obtain ⟨Wz, rfl⟩ : ∃ q, q = Wv := ⟨_, rfl⟩
            refine pl_one rfl rfl (fun K hK => ?_)
            go_simp
            have HFI := refFill13 x ol oa s [n] many Wz (some ⟨g10, 0, none⟩) 1 hr1 HF.out.inv (by have := HSL.out.1; omega) (by have := HSL.out.2; omega) hS10 (by simp)
            rw [hCC] at HFI
            refine HFI.mono ?_
            rintro r Wv ⟨ad2, cp2, e1, hc2, hr2⟩
            rw [hX] at e1 hc2
            subst e1
            have hfin := hE.fin hp1 hk1 hg1 hm1 hr2
            obtain ⟨ol', oa', r1, r2, r3, r4⟩ := hr2
            refine hK _ _ (kp_kept r2 hn (fun k hk => .inl (List.mem_append_right _ hk))) ?_
            clear hK HFI
            have hc3 := hc1.kept r2 (fun a ha hx => by have := hge2 a ha; have := hFx _ hx; omega)
            have hn5 := Nat.le_trans hn r2.size
            clear hS10 r1 r2 r3 r4
            refine pl_one rfl rfl (fun K hK => ?_)
            go_simp
            refine (same11 X Wv ad1 ad2 cp1 cp2 hc3 hc2 hXl).mono ?_
            rintro r Wu ⟨rfl, hb2⟩
            refine hK _ _ (kp_kept (G := []) (Kept.of_below hb2) hn5 (fun k hk => by cases hk)) ?_
            clear hK
            have hfin2 : Both w Wu p x ⟨(s.runs CC).S, (s.runs CC).L, (s.runs CC).nx⟩ := by
              obtain ⟨_, _, _, _, hE9⟩ := hfin
              exact (hE9.below hb2).one
            (refine pl_take (d := 7) (v := ?_) rfl rfl rfl ?_ ?_; rotate_left; (focus ((intro w' hb0 hw'; go_simp) <;> with_reducible rfl)); simp only [Act.put, List.setIfInBounds_toArray, List.set_cons_zero, List.set_cons_succ])
            refine pl_end ?_
            have HB1 := Lib.hid hfin2
            have HC63 := Lib.hid hC63
            clear hfin hfin2 hb2 hE hT0 hT1 hp1 hk1 hg1 hm1 hc1 hc2 hc3 hr1 hC63 hX hXl hCC
            go_wp2_with fail
            go_roundw
            case measure => have := HLT.out; simp [intOf]; omega
            case rel => exact HFIN.out _ _ rfl _ HB1.out ⟨HF.out.inv.runs CC (by have h1 := HC63.out; have h2 := HSL.out.1; omega), by have h1 := (s.runs_len CC).1; have h2 := HF.out.S; have h3 := HC63.out; show (s.runs CC).S.length ≤ _; omega, by have h1 := (s.runs_len CC).2; have h2 := HF.out.L; show (s.runs CC).L.length ≤ _; omega⟩
        · go_simp
          refine hK _ _ (kp_alloc _ hn) ?_
          clear hK
          have hal : Below Wz.heap.size Wz (Wz.alloc (.cells #[.int .u64 (n : Int)] 30)) := (Below.refl _ _).alloc (Nat.le_refl _) _
          have hka : Kept [] Wz (Wz.alloc (.cells #[.int .u64 (n : Int)] 30)) := Kept.alloc _
          have hS10 : Cells (Wz.alloc (.cells #[.int .u64 (n : Int)] 30)) (some ⟨Wz.heap.size, 0, none⟩) [UV n] := Cells.new (cs := [UV n])
          have hg10 : WB.heap.size ≤ Wz.heap.size := hn
          (try replace hS3 := hS3.kept hka (fun a _ hx => by cases hx))
          (try replace hE := hE.below hal)
          (try replace hr1 := hr1.kept hka (fun a _ hx => by cases hx))
          (try replace hp1 := hp1.kept hka (fun a _ hx => by cases hx))
          (try replace hk1 := hk1.trans hka (fun a hx => by cases hx))
          (try replace hc1 := hc1.kept hka (fun a _ hx => by cases hx))
          replace hn := Nat.le_trans hn hal.size
          clear hal hka
          generalize Wz.alloc (.cells #[.int .u64 (n : Int)] 30) = Wv at *
          generalize Wz.heap.size = g10 at *
          obtain ⟨Wz, rfl⟩ : ∃ q, q = Wv := ⟨_, rfl⟩
          refine pl_one rfl rfl (fun K hK => ?_)
          go_simp
          refine hK _ _ (kp_alloc _ hn) ?_
          clear hK
          have hal : Below Wz.heap.size Wz (Wz.alloc (.cells #[.int .u64 (n : Int)] 30)) := (Below.refl _ _).alloc (Nat.le_refl _) _
          have hka : Kept [] Wz (Wz.alloc (.cells #[.int .u64 (n : Int)] 30)) := Kept.alloc _
          have hS3 : Cells (Wz.alloc (.cells #[.int .u64 (n : Int)] 30)) (some ⟨Wz.heap.size, 0, none⟩) [UV n] := Cells.new (cs := [UV n])
          have hg3 : WB.heap.size ≤ Wz.heap.size := hn
          (try replace hS10 := hS10.kept hka (fun a _ hx => by cases hx))
          (try replace hE := hE.below hal)
          (try replace hr1 := hr1.kept hka (fun a _ hx => by cases hx))
          (try replace hp1 := hp1.kept hka (fun a _ hx => by cases hx))
          (try replace hk1 := hk1.trans hka (fun a hx => by cases hx))
          (try replace hc1 := hc1.kept hka (fun a _ hx => by cases hx))
          replace hn := Nat.le_trans hn hal.size
          clear hal hka
          generalize Wz.alloc (.cells #[.int .u64 (n : Int)] 30) = Wv at *
          generalize Wz.heap.size = g3 at *
          obtain ⟨Wz, rfl⟩ : ∃ q, q = Wv := ⟨_, rfl⟩
          refine pl_one rfl rfl (fun K hK => ?_)
          go_simp
          have HFI := fill12 p og om s [n] many Wz (some ⟨g3, 0, none⟩) 1 hE.pool HF.out.inv (by have := HSL.out.1; omega) (by have := HSL.out.2; omega) hS3 (by simp) (by simp)
          rw [hCC] at HFI
          refine HFI.mono ?_
          rintro r Wv ⟨ad1, cp1, e1, hc1, hge1, og', om', hp1, hk1, hg1, hm1, hap1⟩
          rw [hX] at e1 hc1
          subst e1
          refine hK _ _ (kp_kept hk1 hn (fun k hk => .inl (List.mem_append_left _ hk))) ?_
          clear hK HFI
          have hr1 := hE.ref1 hk1
          have hge2 : ∀ a, ad1 = some a → WB.heap.size ≤ a.block := fun a ha => Nat.le_trans hn (hge1 a ha)
          (try replace hS10 := hS10.kept hk1 (fun a ha hx => by cases ha; have := hFp _ hx; simp only at this; omega))
          replace hn := Nat.le_trans hn hk1.size
          clear hge1 hap1 hS3
          obtain ⟨Wz, rfl⟩ : ∃ q, q = Wv := ⟨_, rfl⟩
          refine pl_one rfl rfl (fun K hK => ?_)
          go_simp
          have HFI := refFill13 x ol oa s [n] many Wz (some ⟨g10, 0, none⟩) 1 hr1 HF.out.inv (by have := HSL.out.1; omega) (by have := HSL.out.2; omega) hS10 (by simp)
          rw [hCC] at HFI
          refine HFI.mono ?_
          rintro r Wv ⟨ad2, cp2, e1, hc2, hr2⟩
          rw [hX] at e1 hc2
          subst e1
          have hfin := hE.fin hp1 hk1 hg1 hm1 hr2
          obtain ⟨ol', oa', r1, r2, r3, r4⟩ := hr2
          refine hK _ _ (kp_kept r2 hn (fun k hk => .inl (List.mem_append_right _ hk))) ?_
          clear hK HFI
          have hc3 := hc1.kept r2 (fun a ha hx => by have := hge2 a ha; have := hFx _ hx; omega)
          have hn5 := Nat.le_trans hn r2.size
          clear hS10 r1 r2 r3 r4
          refine pl_one rfl rfl (fun K hK => ?_)
          go_simp
          refine (same11 X Wv ad1 ad2 cp1 cp2 hc3 hc2 hXl).mono ?_
          rintro r Wu ⟨rfl, hb2⟩
          refine hK _ _ (kp_kept (G := []) (Kept.of_below hb2) hn5 (fun k hk => by cases hk)) ?_
          clear hK
          have hfin2 : Both w Wu p x ⟨(s.runs CC).S, (s.runs CC).L, (s.runs CC).nx⟩ := by
            obtain ⟨_, _, _, _, hE9⟩ := hfin
            exact (hE9.below hb2).one
          (refine pl_take (d := 7) (v := ?_) rfl rfl rfl ?_ ?_; rotate_left; (focus ((intro w' hb0 hw'; go_simp) <;> with_reducible rfl)); simp only [Act.put, List.setIfInBounds_toArray, List.set_cons_zero, List.set_cons_succ])
          refine pl_end ?_
          have HB1 := Lib.hid hfin2
          have HC63 := Lib.hid hC63
          clear hfin hfin2 hb2 hE hT0 hT1 hp1 hk1 hg1 hm1 hc1 hc2 hc3 hr1 hC63 hX hXl hCC
          go_wp2_with fail
          go_roundw
          case measure => have := HLT.out; simp [intOf]; omega
          case rel => exact HFIN.out _ _ rfl _ HB1.out ⟨HF.out.inv.runs CC (by have h1 := HC63.out; have h2 := HSL.out.1; omega), by have h1 := (s.runs_len CC).1; have h2 := HF.out.S; have h3 := HC63.out; show (s.runs CC).S.length ≤ _; omega, by have h1 := (s.runs_len CC).2; have h2 := HF.out.L; show (s.runs CC).L.length ≤ _; omega⟩
      have h2 : (kind == 2) = false := beq_eq_false_iff_ne.2 hk2
      clear hk0 hk1 hk2
      go_wp2_with fail
      generalize hWB : wA.alloc (.cells #[.int .i64 kind, .int .i64 many, .int .u64 (n : Int)] 32) = WB at *
      have hTl : wA.heap.size < WB.heap.size := HT.out.lt
      generalize wA.heap.size = T at *
      refine wp_region_plan (kpBut WB.heap.size (foot p og om ++ foot x ol oa)) [] [] (.take 0 (.take 1 (.take 2 (.take 4 (.take 5 (.take 6 (.one 3 (.one 7 (.take 8 (.take 9 .done)))))))))) (by kernel_rfl) (by kernel_rfl) (fun _ _ dd _ _ h => by cases dd <;> exact h) ?_
      intro W0 hW0
      have hE : BothE w W0 p x og om ol oa s := by rw [hW0]; exact HEA.out.below (below_drew WB)
      have hn : WB.heap.size ≤ W0.heap.size := by rw [hW0]; exact Nat.le_refl _
      have hT0 : W0.cell? ⟨T, 2, none⟩ = some (.int .u64 (n : Int)) := by rw [hW0]; exact HT.out.at' 2 (by simp)
      have hT1 : W0.cell? ⟨T, 1, none⟩ = some (.int .i64 many) := by rw [hW0]; exact HT.out.at' 1 (by simp)
      have hTF := HTF.out
      clear hW0 HT HEA HTF
      (refine pl_take (d := 23) (v := ?_) rfl rfl rfl ?_ ?_; rotate_left; (focus ((intro w' hb0 hw'; go_simp) <;> with_reducible rfl)); simp only [Act.put, List.setIfInBounds_toArray, List.set_cons_zero, List.set_cons_succ])
      (refine pl_take (d := 24) (v := ?_) rfl rfl rfl ?_ ?_; rotate_left; (focus ((intro w' hb0 hw'; go_simp) <;> with_reducible rfl)); simp only [Act.put, List.setIfInBounds_toArray, List.set_cons_zero, List.set_cons_succ])
      (refine pl_take (d := 25) (v := ?_) rfl rfl rfl ?_ ?_; rotate_left; (focus ((intro w' hb0 hw'; have q2 : w'.cell? ⟨T, 2, none⟩ = some (.int .u64 (n : Int)) := (World.cell?_of_block ((show (kpBut _ _).r _ _ from hb0).2 T hTl hTF)).trans hT0; have q3 : T < w'.heap.size := Nat.lt_of_lt_of_le (Nat.lt_of_lt_of_le hTl hn) (show (kpBut _ _).r _ _ from hb0).1.size; go_simp) <;> with_reducible rfl)); simp only [Act.put, List.setIfInBounds_toArray, List.set_cons_zero, List.set_cons_succ])
      (refine pl_take (d := 27) (v := ?_) rfl rfl rfl ?_ ?_; rotate_left; (focus ((intro w' hb0 hw'; go_simp) <;> with_reducible rfl)); simp only [Act.put, List.setIfInBounds_toArray, List.set_cons_zero, List.set_cons_succ])
      (refine pl_take (d := 28) (v := ?_) rfl rfl rfl ?_ ?_; rotate_left; (focus ((intro w' hb0 hw'; go_simp) <;> with_reducible rfl)); simp only [Act.put, List.setIfInBounds_toArray, List.set_cons_zero, List.set_cons_succ])
      (refine pl_take (d := 29) (v := ?_) rfl rfl rfl ?_ ?_; rotate_left; (focus ((intro w' hb0 hw'; have q2 : w'.cell? ⟨T, 2, none⟩ = some (.int .u64 (n : Int)) := (World.cell?_of_block ((show (kpBut _ _).r _ _ from hb0).2 T hTl hTF)).trans hT0; have q3 : T < w'.heap.size := Nat.lt_of_lt_of_le (Nat.lt_of_lt_of_le hTl hn) (show (kpBut _ _).r _ _ from hb0).1.size; go_simp) <;> with_reducible rfl)); simp only [Act.put, List.setIfInBounds_toArray, List.set_cons_zero, List.set_cons_succ])
      refine pl_one rfl rfl (fun K hK => ?_)
      go_simp
      refine (seen14 p og om s.S s.L s.nx n W0 hE.pool HDN.out).mono ?_
      rintro r Wv ⟨rfl, hb1⟩
      refine hK _ _ (kp_kept (G := []) (Kept.of_below hb1) hn (fun k hk => by cases hk)) ?_
      clear hK
      have hE1 := hE.below hb1
      have hnv := Nat.le_trans hn hb1.size
      refine pl_one rfl rfl (fun K hK => ?_)
      go_simp
      refine (refSeen15 x ol oa s.S s.L n Wv hE1.ref (by have := HSL.out.1; omega)).mono ?_
      rintro r Wu ⟨rfl, hb2⟩
      refine hK _ _ (kp_kept (G := []) (Kept.of_below hb2) hnv (fun k hk => by cases hk)) ?_
      clear hK
      have hfin := (hE1.below hb2).one
      refine pl_take (d := 31) (v := .bool true) rfl rfl rfl ?_ ?_
      · intro w' hb0 hw'
        go_simp
      simp only [Act.put, List.setIfInBounds_toArray, List.set_cons_zero, List.set_cons_succ]
      (refine pl_take (d := 7) (v := ?_) rfl rfl rfl ?_ ?_; rotate_left; (focus ((intro w' hb0 hw'; go_simp) <;> with_reducible rfl)); simp only [Act.put, List.setIfInBounds_toArray, List.set_cons_zero, List.set_cons_succ])
      refine pl_end ?_
      have HB1 := Lib.hid hfin
      clear hfin hb1 hb2 hE1 hE hT0 hT1
      go_wp2_with fail
      go_roundw
      case measure => have := HLT.out; simp [intOf]; omega
      case rel => exact HFIN.out _ _ rfl _ HB1.out ⟨HF.out.inv, by have h2 := HF.out.S; omega, by have h2 := HF.out.L; omega⟩
    · obtain rfl : k = l.length := by omega
      have HB2 : Hid (Below w.heap.size w wr) := by
        obtain ⟨og, om, ol, oa, hE⟩ := hB.out
        exact Lib.hid hE.bel
      clear hB hF
      go_wp2_with fail
      refine (works5 _).mono ?_
      rintro r w2 ⟨rfl, hb⟩
      have HB3 := Lib.hid (below_step HB2.out hb)
      clear hb
      go_wp2
      refine bodyPost_ret (v := .bool true) (by simp [results, Try.results3, go_sem]) rfl ⟨rfl, by have := HB3.out; rw [HPE.out] at this ⊢; exact this⟩
end Go.Proofs.Ytfeebleplmophaa
