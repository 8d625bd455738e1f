/-
  Pools in memory: what a row of numbers, a set of numbers and a pool are good for, and what stays.
-/
import Derived.Test.YtfeebleplmophaaOwn
import Derived.Test.YtfeebleplmophaaRows
import Derived.ArgAppend
import Derived.Maps.OwnSet
import Derived.KernelRfl
namespace Go.Proofs.Ytfeebleplmophaa
open Go.RowKit
set_option maxHeartbeats 400000
set_option linter.unusedVariables false
set_option linter.unusedSimpArgs false

/-- all blocks but some stay -/
structure Kept (F : List Nat) (w w' : World) : Prop where
  base : Below 0 w w'
  block : ∀ k, k < w.heap.size → k ∉ F → w'.heap[k]? = w.heap[k]?
theorem Kept.size {F : List Nat} {w w' : World} (h : Kept F w w') : w.heap.size ≤ w'.heap.size := h.base.size
theorem Kept.refl (F : List Nat) (w : World) : Kept F w w := ⟨Below.refl _ _, fun _ _ _ => rfl⟩
theorem Kept.trans {F G : List Nat} {a b c : World} (h : Kept F a b) (k : Kept G b c) (hg : ∀ x ∈ G, x ∈ F ∨ a.heap.size ≤ x) : Kept F a c :=
  ⟨h.base.trans k.base, fun x hx hn => by
    rw [k.block x (Nat.lt_of_lt_of_le hx h.size) (fun hm => by rcases hg x hm with e | e; exact hn e; omega), h.block x hx hn]⟩
theorem Kept.of_below {F : List Nat} {w w' : World} (h : Below w.heap.size w w') : Kept F w w' := ⟨h.mono (Nat.zero_le _), fun k hk _ => h.block k hk⟩
theorem Kept.mono {F G : List Nat} {w w' : World} (h : Kept F w w') (hs : ∀ x ∈ F, x ∈ G) : Kept G w w' := ⟨h.base, fun k hk hn => h.block k hk (fun hm => hn (hs k hm))⟩
theorem Kept.below {F : List Nat} {w0 w w' : World} {B : Nat} (h : Kept F w w') (hb : Below B w0 w) (hB : B ≤ w.heap.size) (hF : ∀ x ∈ F, B ≤ x) : Below B w0 w' :=
  hb.trans ⟨h.base.os, h.base.tape, h.base.output, h.base.size, fun k hk => h.block k (by omega) (fun hm => by have := hF k hm; omega)⟩
theorem Kept.setCell {w : World} {a : Addr} {u : Value} : Kept [a.block] w (w.setCell a u) :=
  ⟨(Below.refl 0 w).setCell (Nat.zero_le _) u, fun k _ hn => Below.heap_setCell _ _ _ _ (fun e => hn (by simp [e]))⟩
theorem Kept.drew {w : World} : Kept [] w w.drew := Kept.of_below (below_drew w)
theorem Kept.grown {w w' : World} {o : Option Nat} (h : w.grownBy w' o) : Kept o.toList w w' :=
  ⟨⟨h.os, h.tape, h.output, h.size, fun _ hk => absurd hk (Nat.not_lt_zero _)⟩, fun k hk hn => h.block k hk (fun e => hn (by rw [← e]; simp))⟩
theorem Kept.alloc {w : World} (o : Obj) : Kept [] w (w.alloc o) := Kept.of_below ((Below.refl _ _).alloc (Nat.le_refl _) _)

theorem Blk.kept {F : List Nat} {w w' : World} {b : Nat} {cs : List Value} (h : Blk w b cs) (hk : Kept F w w') (hn : b ∉ F) : Blk w' b cs := by
  have e := hk.block b h.lt hn
  exact ⟨Nat.lt_of_lt_of_le h.lt hk.size, fun i hi => (World.cell?_of_block e).trans (h.cell i hi), fun i => (World.frozen?_of_block e).trans (h.froz i)⟩
theorem Cells.kept {F : List Nat} {w w' : World} {oa : Option Addr} {cs : List Value} (h : Cells w oa cs) (hk : Kept F w w') (hn : ∀ a, oa = some a → a.block ∉ F) : Cells w' oa cs := by
  intro i hi
  obtain ⟨b, o, e, hlt, hc⟩ := h.at' hi
  refine ⟨b, o, e, ?_⟩
  rw [World.cell?_of_block (hk.block b hlt (hn _ e)), hc, List.getElem?_eq_getElem hi]

/-- numbers in cells -/
def UV (x : Nat) : Value := .int .u64 (x : Int)
theorem UV_one {l : List Nat} : ∀ u ∈ l.map UV, u.oneCell' = true := by
  intro u hu
  obtain ⟨x, -, rfl⟩ := List.mem_map.1 hu
  rfl
theorem el27 : Elem Try.prog 27 30 1 8 := Elem.of (.int .u64 0) rfl (by kernel_rfl) rfl (by omega)

/-- a row of numbers of one's own: appended to behind, taken from ahead -/
def Que (w : World) (v : Value) (og : Option Nat) (L : List Nat) : Prop :=
  (v = .slice none 0 0 ∧ L = [] ∧ og = none) ∨ ∃ g off cap, og = some g ∧ v = .slice (some ⟨g, off, none⟩) L.length cap ∧ L.length ≤ cap ∧ cap ≤ maxLen ∧ g < w.heap.size ∧
    (∀ j, j < L.length → w.cell? ⟨g, off + j, none⟩ = some (UV (L.getD j 0))) ∧ (∀ j, j < cap → (w.cell? ⟨g, off + j, none⟩).isSome = true) ∧ ∀ i, w.frozen? ⟨g, i, none⟩ = false
theorem Que.nil (w : World) : Que w (.slice none 0 0) none [] := .inl ⟨rfl, rfl, rfl⟩
theorem Que.kept {F : List Nat} {w w' : World} {v : Value} {og : Option Nat} {L : List Nat} (h : Que w v og L) (hk : Kept F w w') (hn : ∀ g, og = some g → g ∉ F) : Que w' v og L := by
  rcases h with h | ⟨g, off, cap, e, hv, h1, h2, h3, h4, h5, h6⟩
  · exact .inl h
  · have eb := hk.block g h3 (hn g e)
    refine .inr ⟨g, off, cap, e, hv, h1, h2, Nat.lt_of_lt_of_le h3 hk.size, fun j hj => ?_, fun j hj => ?_, fun i => ?_⟩
    · rw [World.cell?_of_block eb]; exact h4 j hj
    · rw [World.cell?_of_block eb]; exact h5 j hj
    · rw [World.frozen?_of_block eb]; exact h6 i
theorem Que.lt {w : World} {v : Value} {og : Option Nat} {L : List Nat} (h : Que w v og L) : ∀ g, og = some g → g < w.heap.size := by
  rcases h with ⟨-, -, rfl⟩ | ⟨g, off, cap, rfl, -, -, -, h3, -⟩
  · intro g e; cases e
  · intro g' e; cases e; exact h3
theorem Que.cells {w : World} {v : Value} {og : Option Nat} {L : List Nat} (h : Que w v og L) : ∃ oa c, v = .slice oa L.length c ∧ L.length ≤ c ∧ c ≤ maxLen ∧ Cells w oa (L.map UV) ∧ (∀ a, oa = some a → og = some a.block) := by
  rcases h with ⟨rfl, rfl, rfl⟩ | ⟨g, off, cap, rfl, rfl, h1, h2, h3, h4, h5, h6⟩
  · exact ⟨none, 0, rfl, Nat.le_refl _, Nat.zero_le _, Cells.nil _ _, fun a e => by cases e⟩
  · refine ⟨_, _, rfl, h1, h2, ?_, fun a e => by cases e; rfl⟩
    intro i hi
    have hi' : i < L.length := by simpa using hi
    refine ⟨g, off, rfl, ?_⟩
    rw [h4 i hi']
    simp [List.getD_eq_getElem?_getD, hi']
/-- a row that the kit calls one's own -/
theorem Que.own {w : World} {base : Nat} {v : Value} {n : Nat} {L : List Nat} (h : Own w base 30 1 v n (L.map UV)) : ∃ og, Que w v og L ∧ ∀ g, og = some g → base ≤ g := by
  have hl := h.len
  simp only [List.length_map, Nat.mul_one] at hl
  rcases h.row.2 with ⟨rfl, e0⟩ | ⟨g, cap, cur, rfl, hb, hg, hnc, hcm, hcs, htake⟩
  · refine ⟨none, .inl ⟨rfl, List.eq_nil_of_length_eq_zero (by omega), rfl⟩, fun g e => by cases e⟩
  · have hcell : ∀ i, w.cell? ⟨g, i, none⟩ = cur[i]? := fun i => cell_of_row w g i cur 30 (0, 0) hg
    refine ⟨some g, .inr ⟨g, 0, cap, rfl, by rw [hl], by omega, hcm, (Array.getElem?_eq_some_iff.1 hg).1, fun j hj => ?_, fun j hj => ?_, fun i => h.row.frozenAt i⟩, fun g' e => by cases e; exact hb⟩
    · have := h.row.cellAt j (by omega)
      rw [Nat.zero_add, this]
      simp [List.getD_eq_getElem?_getD, hj]
    · rw [Nat.zero_add, hcell, Array.getElem?_eq_getElem (by omega)]; rfl
/-- what stays of a block that is known or new -/
def New (w : World) (o o' : Option Nat) : Prop := ∀ k, o' = some k → o = some k ∨ w.heap.size ≤ k
theorem New.refl (w : World) (o : Option Nat) : New w o o := fun _ h => .inl h
theorem New.trans {w w' : World} {a b c : Option Nat} (h : New w a b) (k : New w' b c) (hs : w.heap.size ≤ w'.heap.size) : New w a c := fun x hx => by
  rcases k x hx with e | e
  · exact h x e
  · exact .inr (by omega)

/-- 'append' of one number onto a row -/
theorem wpList_que {w : World} {ops : Array Oper} {rest : List Oper} {o : Oper} {a : Act} {Q : Exit → Act → World → Prop} (hgd : o.guard = none) (s x : Operand)
    (hop : o.op = Op.call { callee := Callee.builtin Builtin.append, args := #[s, x], argTypes := #[27, 27] }) {v : Value} {og : Option Nat} {L : List Nat} (hs : a.eval s = v) (hq : Que w v og L) (hl : L.length ≤ 1000000)
    {ad : Addr} {n c : Nat} (hx : a.eval x = .slice (some ad) 1 c) (hc : Cells w (some ad) [UV n])
    (hK : ∀ v' w' og', Que w' v' og' (L ++ [n]) → Kept og.toList w w' → New w og og' → wpList Try.prog ops Q rest (a.put o.dst v') w') :
    wpList Try.prog ops Q (o :: rest) a w := by
  obtain ⟨i, z, hi, hz, hsize, hby, hzs⟩ := el27.info
  have hnews : ∀ j u, [UV n][j]? = some u → w.cell? (ad.add j) = some u := hc.news
  rcases hq with ⟨rfl, rfl, rfl⟩ | ⟨g, off, cap, rfl, rfl, h1, h2, h3, h4, h5, h6⟩
  · refine wpList_append_grows w hgd s x 27 hop 30 i z 1 8 el27.under hi hz hsize hby hzs (by omega) none 0 0 [] hs (fun _ => ⟨rfl, rfl⟩) rfl (fun b e => by cases e) ad 1 c [UV n] hx rfl hnews (fun u hu => by rw [List.mem_singleton.1 hu]; rfl) (by omega) (by simp [maxLen]) (by omega) ?_
    intro v' w' hown hgrow
    obtain ⟨og', hq', hge⟩ := Que.own (L := [n]) ⟨hown⟩
    exact hK v' w' og' hq' (Kept.grown hgrow) (fun k hk => .inr (hge k hk))
  · refine wpList_append_arg w hgd s x 27 hop 30 i z 1 8 el27.under hi hz hsize hby hzs (by omega) g off L.length cap (L.map UV) hs (by simp) (fun j u hj => ?_) ad 1 c [UV n] hx rfl hnews (fun u hu => by rw [List.mem_singleton.1 hu]; rfl) (fun hr j hj => ?_) (by simp [maxLen]; omega) (by omega) (fun hr => ?_) (fun hr v' w' hown hgrow => ?_)
    · obtain ⟨hj', e⟩ := List.getElem?_eq_some_iff.1 hj
      have hj2 : j < L.length := by simpa using hj'
      rw [h4 j hj2, ← e]
      simp [List.getD_eq_getElem?_getD, hj2]
    · have hj0 : j = 0 := by simpa using hj
      subst hj0
      exact ⟨by rw [Nat.mul_one]; exact h5 _ (by omega), h6 _⟩
    · rw [Nat.mul_one]
      refine hK _ _ (some g) (.inr ⟨g, off, cap, rfl, by simp, by simp; omega, h2, ?_, fun j hj => ?_, fun j hj => ?_, fun i => ?_⟩) ?_ (New.refl _ _)
      · show g < ((w.setCell ⟨g, off + L.length, none⟩ (UV n))).heap.size
        simpa [World.setCell] using h3
      · show (w.setCell ⟨g, off + L.length, none⟩ (UV n)).cell? _ = _
        by_cases e : j = L.length
        · subst e
          have h7 := h5 L.length (by omega)
          rw [Option.isSome_iff_exists] at h7
          obtain ⟨u, hu⟩ := h7
          rw [World.cell?_setCell_same _ _ _ hu]
          simp
        · have hj' : j < L.length := by simp at hj; omega
          rw [World.cell?_setCell_other _ _ _ _ (fun h => e (by have := (Addr.mk.inj h).2.1; omega)), h4 j hj']
          simp [List.getD_eq_getElem?_getD, List.getElem?_append_left hj']
      · show ((w.setCell ⟨g, off + L.length, none⟩ (UV n)).cell? _).isSome = true
        by_cases e : j = L.length
        · subst e
          have h7 := h5 L.length (by omega)
          rw [Option.isSome_iff_exists] at h7
          obtain ⟨u, hu⟩ := h7
          rw [World.cell?_setCell_same _ _ _ hu]; rfl
        · rw [World.cell?_setCell_other _ _ _ _ (fun h => e (by have := (Addr.mk.inj h).2.1; omega))]
          exact h5 j hj
      · show (w.setCell ⟨g, off + L.length, none⟩ (UV n)).frozen? _ = _
        rw [World.frozen?_setCell]; exact h6 i
      · show Kept [g] w (w.setCell ⟨g, off + L.length, none⟩ (UV n))
        exact Kept.setCell (a := ⟨g, off + L.length, none⟩)
    · have hm : L.map UV ++ [UV n] = (L ++ [n]).map UV := by simp
      rw [hm] at hown
      obtain ⟨og', hq', hge⟩ := Que.own ⟨hown⟩
      exact hK v' w' og' hq' (Kept.grown (o := none) hgrow |>.mono (fun x hx => by cases hx)) (fun k hk => .inr (hge k hk))

/-- a set of numbers -/
def SetIs (w : World) (v : Value) (om : Option Nat) (S : List Nat) : Prop :=
  (v = .map none ∧ om = none ∧ S = []) ∨ ∃ m D, v = .map (some m) ∧ om = some m ∧ w.ownsMap (H := Unit) Try.prog 30 unitElem m S.length D ∧ ∀ x : Nat, x < 18446744073709551616 → Maps.has D (.int .u64 x) = decide (x ∈ S)
theorem SetIs.kept {F : List Nat} {w w' : World} {v : Value} {om : Option Nat} {S : List Nat} (h : SetIs w v om S) (hk : Kept F w w') (hn : ∀ m, om = some m → m ∉ F) : SetIs w' v om S := by
  rcases h with h | ⟨m, D, hv, e, hm, hD⟩
  · exact .inl h
  · refine .inr ⟨m, D, hv, e, ?_, hD⟩
    have hlt := hm.lt
    obtain ⟨es, clock, hb, F', hs, hD'⟩ := hm
    exact ⟨es, clock, (hk.block m hlt (hn m e)).trans hb, F', hs, hD'⟩
theorem SetIs.lt {w : World} {v : Value} {om : Option Nat} {S : List Nat} (h : SetIs w v om S) : ∀ m, om = some m → m < w.heap.size := by
  rcases h with ⟨-, rfl, -⟩ | ⟨m, D, -, rfl, hm, -⟩
  · intro m e; cases e
  · intro m' e; cases e; exact hm.lt

/-- a pool -/
structure Pool (w : World) (b : Nat) (og om : Option Nat) (S L : List Nat) (nx : Nat) : Prop where
  mem : ∃ d v s, Blk w b [.int .u32 d, .int .i32 0, .int .u32 0, v, s, UV nx] ∧ Que w v og L ∧ SetIs w s om S ∧ ((om = none ∧ d = 0) ∨ ((∃ m, om = some m) ∧ d = 1))
  gb : og ≠ some b
  mb : om ≠ some b
  gm : ∀ g, og = some g → om ≠ some g
/-- the blocks of a pool -/
def foot (b : Nat) (og om : Option Nat) : List Nat := b :: (og.toList ++ om.toList)
theorem mem_foot {b : Nat} {og om : Option Nat} {x : Nat} : x ∈ foot b og om ↔ x = b ∨ og = some x ∨ om = some x := by
  unfold foot
  cases og <;> cases om <;> simp [eq_comm]
theorem Pool.lt {w : World} {b : Nat} {og om : Option Nat} {S L : List Nat} {nx : Nat} (h : Pool w b og om S L nx) : ∀ x ∈ foot b og om, x < w.heap.size := by
  obtain ⟨d, v, s, hB, hq, hs, -⟩ := h.mem
  intro x hx
  rcases mem_foot.1 hx with rfl | e | e
  · exact hB.lt
  · exact hq.lt x e
  · exact hs.lt x e
theorem Pool.kept {F : List Nat} {w w' : World} {b : Nat} {og om : Option Nat} {S L : List Nat} {nx : Nat} (h : Pool w b og om S L nx) (hk : Kept F w w') (hn : ∀ x ∈ foot b og om, x ∉ F) : Pool w' b og om S L nx := by
  obtain ⟨d, v, s, hB, hq, hs, hd⟩ := h.mem
  exact ⟨⟨d, v, s, hB.kept hk (hn b (mem_foot.2 (.inl rfl))), hq.kept hk (fun g e => hn g (mem_foot.2 (.inr (.inl e)))), hs.kept hk (fun m e => hn m (mem_foot.2 (.inr (.inr e)))), hd⟩, h.gb, h.mb, h.gm⟩
theorem foot_new {w : World} {b : Nat} {og om og' om' : Option Nat} (hg : New w og og') (hm : New w om om') : ∀ x ∈ foot b og' om', x ∈ foot b og om ∨ w.heap.size ≤ x := by
  intro x hx
  rcases mem_foot.1 hx with rfl | e | e
  · exact .inl (mem_foot.2 (.inl rfl))
  · rcases hg x e with e | e
    · exact .inl (mem_foot.2 (.inr (.inl e)))
    · exact .inr e
  · rcases hm x e with e | e
    · exact .inl (mem_foot.2 (.inr (.inr e)))
    · exact .inr e
/-- what a deed does to a pool -/
def PoolTo (w : World) (b : Nat) (og om : Option Nat) (S L : List Nat) (nx : Nat) (w' : World) : Prop :=
  ∃ og' om', Pool w' b og' om' S L nx ∧ Kept (foot b og om) w w' ∧ New w og og' ∧ New w om om'
end Go.Proofs.Ytfeebleplmophaa
