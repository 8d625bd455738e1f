/-
  What an argument that can be read as data is: its cells, leaf by leaf.
-/
import Derived.Test.YthdkgcmoagookaaApi
import Derived.ProofKit
import Derived.OpenShut
import Derived.ShutString
import Derived.ChangeOld
import Derived.Below
namespace Go.Proofs.Ythdkgcmoagookaa
open Go.RowKit Go.ChangeShapes Go.WideShapes Go.ChangeAt

/-- what one cell may be -/
inductive Leaf where
  | b
  | i (k : IntKind)
  | s
  | sl (e : TypeId)

/-- a struct's fields lie one behind the other -/
def behind (P : Program) : Nat → List Field → Option Nat
  | n, [] => some n
  | n, f :: fs => if f.offset = n then behind P (n + P.cellsOf f.type) fs else none

/-- a type's cells, of structs and arrays of bools, integers, strings and slices -/
def leaves (P : Program) : Nat → TypeId → Option (List Leaf)
  | 0, _ => none
  | m + 1, t => match P.underlying t with
    | some .bool => some [.b]
    | some (.int k) => some [.i k]
    | some .string => some [.s]
    | some (.slice e) => some [.sl e]
    | some (.struct fs) => if behind P 0 fs.toList = some (P.cellsOf t) then (fs.toList.mapM fun f => (leaves P m f.type).bind fun l => if l.length = P.cellsOf f.type then some l else none).map List.flatten else none
    | some (.array n e) => (leaves P m e).bind fun l => if l.length = P.cellsOf e ∧ n * P.cellsOf e = P.cellsOf t then some ((List.replicate n l).flatten) else none
    | _ => none

/-- the cells read as a datum of the type -/
def Readable (P : Program) (w : World) (t : TypeId) (cs : List Value) : Prop :=
  ∃ (H : Type) (enc : TypeId × Value → H) (base : Nat) (spare : Nat → Bool) (held : Bool) (fuel : Nat) (x : DataW H × List MemPlace), DataW.trod enc P w base spare held fuel t cs = some x

def LeafOk (P : Program) (w : World) : Leaf → Value → Prop
  | .b, v => ∃ b, v = .bool b
  | .i k, v => ∃ n, v = .int k n ∧ (Lit.int k n).wf = true
  | .s, v => ∃ s : ByteArray, v = .string s ∧ s.size ≤ maxLen
  | .sl e, v => v = .slice none 0 0 ∨ ∃ (a : Addr) (len cap : Nat), v = .slice (some a) len cap ∧ len ≤ cap ∧ cap ≤ maxLen ∧
      ∀ i, i < len → ∃ cs, cs.length = P.cellsOf e ∧ (∀ j, j < P.cellsOf e → w.cell? (a.add (i * P.cellsOf e + j)) = cs[j]?) ∧ Readable P w e cs

def Fits (P : Program) (w : World) : List Leaf → List Value → Prop
  | [], [] => True
  | l :: L, v :: cs => LeafOk P w l v ∧ Fits P w L cs
  | _, _ => False

section
variable {P : Program} {w : World}

theorem fits_append : ∀ {L M : List Leaf} {cs ds : List Value}, Fits P w L cs → Fits P w M ds → Fits P w (L ++ M) (cs ++ ds)
  | [], _, [], _, _, h => h
  | _ :: _, _, _ :: _, _, h, k => ⟨h.1, fits_append h.2 k⟩
  | [], _, _ :: _, _, h, _ => h.elim
  | _ :: _, _, [], _, h, _ => h.elim

theorem add_add (a : Addr) (m n : Nat) : (a.add m).add n = a.add (m + n) := by
  unfold Addr.add
  by_cases h1 : m = 0
  · subst h1; simp
  · by_cases h2 : n = 0
    · subst h2; simp [h1]
    · simp [h1, h2, Nat.add_assoc]

/-- the fields' pieces, one behind the other -/
theorem fields_fit (m : Nat) (ih : ∀ t L cs, leaves P m t = some L → Readable P w t cs → Fits P w L cs) :
    ∀ (fs : List Field) (n tot : Nat) (Ls : List (List Leaf)) (cs : List Value), behind P n fs = some tot → cs.length = tot →
      (fs.mapM fun f => (leaves P m f.type).bind fun l => if l.length = P.cellsOf f.type then some l else none) = some Ls →
      (∀ f ∈ fs, Readable P w f.type ((cs.drop f.offset).take (P.cellsOf f.type))) → Fits P w Ls.flatten (cs.drop n)
  | [], n, tot, Ls, cs, hb, hl, hL, _ => by
    simp [behind] at hb
    simp at hL
    subst hL; subst hb
    rw [List.drop_of_length_le (by omega)]
    trivial
  | f :: fs, n, tot, Ls, cs, hb, hl, hL, hr => by
    simp only [behind] at hb
    split at hb
    case isFalse => cases hb
    rename_i ho
    simp only [List.mapM_cons, Option.pure_def, Option.bind_eq_bind, Option.bind_eq_some_iff] at hL
    obtain ⟨L0, ⟨l, hl0, hl1⟩, Ls', hLs, he⟩ := hL
    split at hl1
    case isFalse => cases hl1
    rename_i hlen
    simp only [Option.some.injEq] at hl1 he
    subst hl1; subst he
    have h1 := ih _ _ _ hl0 (hr f (by simp))
    rw [ho] at h1
    have h2 := fields_fit m ih fs (n + P.cellsOf f.type) tot Ls' cs hb hl hLs (fun g hg => hr g (by simp [hg]))
    have e : cs.drop n = (cs.drop n).take (P.cellsOf f.type) ++ cs.drop (n + P.cellsOf f.type) := by
      rw [← List.drop_drop, List.take_append_drop]
    rw [e, List.flatten_cons]
    exact fits_append h1 h2

theorem array_fit (k : Nat) (L : List Leaf) : ∀ (n : Nat) (cs : List Value), cs.length = n * k → (∀ i, i < n → Fits P w L ((cs.drop (i * k)).take k)) → Fits P w ((List.replicate n L).flatten) cs
  | 0, cs, hl, _ => by
    have : cs = [] := List.eq_nil_of_length_eq_zero (by simpa using hl)
    subst this; trivial
  | n + 1, cs, hl, h => by
    have h0 := h 0 (by omega)
    rw [Nat.zero_mul, List.drop_zero] at h0
    have h1 := array_fit k L n (cs.drop k) (by rw [List.length_drop, hl, Nat.add_mul]; omega) (fun i hi => by
      have := h (i + 1) (by omega)
      rw [List.drop_drop]
      rw [show (i + 1) * k = k + i * k from by rw [Nat.add_mul]; omega] at this
      exact this)
    rw [List.replicate_succ, List.flatten_cons, ← List.take_append_drop k cs]
    exact fits_append (by simpa using h0) (by simpa using h1)

theorem fits_of : ∀ (m : Nat) (t : TypeId) (L : List Leaf) (cs : List Value), leaves P m t = some L → Readable P w t cs → Fits P w L cs
  | 0, t, L, cs, h, _ => by simp [leaves] at h
  | m + 1, t, L, cs, h, hr => by
    obtain ⟨H, enc, base, spare, held, fuel, x, hx⟩ := hr
    unfold leaves at h
    split at h
    · rename_i ht
      obtain ⟨b, rfl, -⟩ := DataW.trod_bool ht hx
      simp at h; subst h
      exact ⟨⟨b, rfl⟩, trivial⟩
    · rename_i k ht
      obtain ⟨n, rfl, -, hw⟩ := DataW.trod_int ht hx
      simp at h; subst h
      exact ⟨⟨n, rfl, hw⟩, trivial⟩
    · rename_i ht
      obtain ⟨s, rfl, -, hs⟩ := DataW.trod_string ht hx
      simp at h; subst h
      exact ⟨⟨s, rfl, hs⟩, trivial⟩
    · rename_i e ht
      simp at h; subst h
      rcases DataW.trod_slice ht hx with ⟨rfl, -⟩ | ⟨a, len, cap, elems, rest, n, -, rfl, -, hb, hl, hm, hlen, hel, -, -⟩
      · exact ⟨Or.inl rfl, trivial⟩
      · refine ⟨Or.inr ⟨a, len, cap, rfl, hl, hm, fun i hi => ?_⟩, trivial⟩
        have h1 := hel i hi
        have h2 : elems[i]? = some (elems[i]'(by omega)) := List.getElem?_eq_getElem (by omega)
        rw [h2, Option.bind_eq_some_iff] at h1
        obtain ⟨cs, hcs, ht2⟩ := h1
        obtain ⟨-, hcl, hat⟩ := World.cells?_some hcs
        refine ⟨cs, hcl, fun j hj => ?_, H, enc, base, spare, held, n, _, ht2⟩
        rw [← add_add, hat j hj]
    · rename_i fs ht
      split at h
      case isFalse => cases h
      rename_i hbe
      rw [Option.map_eq_some_iff] at h
      obtain ⟨Ls, hLs, rfl⟩ := h
      obtain ⟨xs, n, -, -, hcl, hxl, hf⟩ := DataW.trod_struct ht hx
      have := fields_fit m (fun t L cs => fits_of m t L cs) fs.toList 0 (P.cellsOf t) Ls cs hbe hcl hLs (fun f hfm => by
        obtain ⟨i, hi, rfl⟩ := List.getElem_of_mem hfm
        have hi' : i < fs.size := by simpa using hi
        have h1 := hf i fs[i] (by simp [hi'])
        refine ⟨H, enc, base, spare, held, n, xs[i]'(by omega), ?_⟩
        have h2 : xs[i]? = some (xs[i]'(by omega)) := List.getElem?_eq_getElem (by omega)
        rw [← h2]
        simpa using h1)
      simpa using this
    · rename_i n e ht
      rw [Option.bind_eq_some_iff] at h
      obtain ⟨l, hl, h⟩ := h
      split at h
      case isFalse => cases h
      rename_i hc
      simp only [Option.some.injEq] at h
      subst h
      obtain ⟨xs, k, -, hcl, hxl, hf⟩ : ∃ (xs : List (DataW H × List MemPlace)) (k : Nat), True ∧ cs.length = P.cellsOf t ∧ xs.length = n ∧ ∀ i, i < n → DataW.trod enc P w base spare held k e ((cs.drop (i * P.cellsOf e)).take (P.cellsOf e)) = xs[i]? := by
        cases fuel with
        | zero => simp [DataW.trod] at hx
        | succ k =>
          unfold DataW.trod at hx
          rw [ht] at hx
          split at hx <;> simp_all
          obtain ⟨hl1, xs, hp, hd⟩ := hx
          refine ⟨xs, by simpa using mapM_some_length hp, k, fun i hi => ?_⟩
          have := mapM_some_get hp i i (by simp [hi])
          exact this
      refine array_fit (P.cellsOf e) l n cs (by rw [hcl, hc.2]) (fun i hi => ?_)
      have h1 := hf i hi
      have h2 : xs[i]? = some (xs[i]'(by omega)) := List.getElem?_eq_getElem (by omega)
      exact fits_of m e l _ hl ⟨H, enc, base, spare, held, k, _, h1.trans h2⟩
    · cases h

/-- a slice's elements, each of the same make -/
theorem rows_of {α : Type} {f : α → List Value} {ok : α → Prop} {e : TypeId} (hk : 0 < P.cellsOf e)
    (hel : ∀ cs, Readable P w e cs → ∃ a, cs = f a ∧ ok a) {v : Value} (h : LeafOk P w (.sl e) v) :
    ∃ oa len cap l, v = .slice oa len cap ∧ len ≤ cap ∧ cap ≤ maxLen ∧ RowsOf f w oa len l ∧ (∀ a ∈ l, ok a) ∧ (oa = none → cap = 0) := by
  rcases h with rfl | ⟨a, len, cap, rfl, hl, hm, hi⟩
  · exact ⟨none, 0, 0, [], rfl, Nat.le_refl _, by simp [maxLen], RowsOf.nil _ _, by simp, fun _ => rfl⟩
  · have hch : ∃ l : List α, l.length = len ∧ (∀ x ∈ l, ok x) ∧ ∀ i (h : i < l.length), (f l[i]).length = P.cellsOf e ∧ ∀ j, j < P.cellsOf e → w.cell? (a.add (i * P.cellsOf e + j)) = (f l[i])[j]? := by
      clear hl
      induction len with
      | zero => exact ⟨[], rfl, by simp, fun i h => by simp at h⟩
      | succ len ih =>
        obtain ⟨l, h1, h2, h3⟩ := ih (fun i h => hi i (by omega))
        obtain ⟨cs, c1, c2, c3⟩ := hi len (by omega)
        obtain ⟨x, rfl, hx⟩ := hel cs c3
        refine ⟨l ++ [x], by simp [h1], fun y hy => ?_, fun i h => ?_⟩
        · rcases List.mem_append.1 hy with hy | hy
          · exact h2 y hy
          · have : y = x := by simpa using hy
            subst this; exact hx
        · by_cases hlt : i < l.length
          · rw [List.getElem_append_left hlt]; exact h3 i hlt
          · have : i = len := by simp at h; omega
            subst this
            rw [List.getElem_append_right (by omega)]
            simp only [h1, Nat.sub_self, List.getElem_cons_zero]
            exact ⟨c1, c2⟩
    obtain ⟨l, h1, h2, h3⟩ := hch
    refine ⟨some a, len, cap, l, rfl, hl, hm, ⟨h1.symm, ?_⟩, h2, fun h => by cases h⟩
    intro q hq
    have hlen : (l.flatMap f).length = l.length * P.cellsOf e := by
      have : ∀ (m : List α), (∀ x ∈ m, (f x).length = P.cellsOf e) → (m.flatMap f).length = m.length * P.cellsOf e := by
        intro m
        induction m with
        | nil => simp
        | cons y m ih => intro h; simp [h y (by simp), ih (fun x hx => h x (by simp [hx])), Nat.add_mul, Nat.add_comm]
      exact this l (fun x hx => by obtain ⟨i, hi, rfl⟩ := List.getElem_of_mem hx; exact (h3 i hi).1)
    have hpos : 0 < l.length := by
      rcases Nat.eq_zero_or_pos l.length with h | h
      · rw [hlen, h] at hq; simp at hq
      · exact h
    have h00 := (h3 0 hpos).2 0 hk
    have hsp : a.spot = none := by
      have e0 : a.add (0 * P.cellsOf e + 0) = a := by simp [Addr.add]
      rw [e0] at h00
      have hl0 := (h3 0 hpos).1
      rw [List.getElem?_eq_getElem (by omega)] at h00
      exact spot_none h00
    obtain ⟨b, o, s⟩ := a
    simp only at hsp; subst hsp
    refine ⟨b, o, rfl, ?_⟩
    rw [hlen] at hq
    have hdiv : q / P.cellsOf e < l.length := (Nat.div_lt_iff_lt_mul hk).2 hq
    have hmod : q % P.cellsOf e < P.cellsOf e := Nat.mod_lt _ hk
    have hc := (h3 _ hdiv).2 _ hmod
    have ei : q / P.cellsOf e * P.cellsOf e + q % P.cellsOf e = q := by rw [Nat.mul_comm]; exact Nat.div_add_mod q _
    rw [ei] at hc
    have hadd : (⟨b, o, none⟩ : Addr).add q = ⟨b, o + q, none⟩ := by unfold Addr.add; split <;> simp_all
    rw [hadd] at hc
    rw [hc]
    have hflat : ∀ (m : List α) (q j : Nat) (hq : q < m.length), (∀ x ∈ m, (f x).length = P.cellsOf e) → j < P.cellsOf e → (m.flatMap f)[q * P.cellsOf e + j]? = (f m[q])[j]? := by
      intro m
      induction m with
      | nil => intro q j hq; simp at hq
      | cons y m ih =>
        intro q j hq hm hj
        have hy := hm y (by simp)
        cases q with
        | zero => rw [List.flatMap_cons, List.getElem?_append_left (by omega)]; simp
        | succ q =>
          have e2 : (q + 1) * P.cellsOf e + j = (f y).length + (q * P.cellsOf e + j) := by rw [hy, Nat.add_mul]; omega
          rw [List.flatMap_cons, e2, List.getElem?_append_right (by omega), Nat.add_sub_cancel_left, ih q j (by simpa using hq) (fun x hx => hm x (by simp [hx])) hj]
          simp
    have := hflat l (q / P.cellsOf e) (q % P.cellsOf e) hdiv (fun x hx => by obtain ⟨i, hi, rfl⟩ := List.getElem_of_mem hx; exact (h3 i hi).1) hmod
    rw [ei] at this
    exact this.symm

theorem fits_nil {cs : List Value} (h : Fits P w [] cs) : cs = [] := by cases cs with
  | nil => rfl
  | cons _ _ => exact h.elim
theorem fits_cons {l : Leaf} {L : List Leaf} {cs : List Value} (h : Fits P w (l :: L) cs) : ∃ v r, cs = v :: r ∧ LeafOk P w l v ∧ Fits P w L r := by cases cs with
  | nil => exact h.elim
  | cons v r => exact ⟨v, r, rfl, h.1, h.2⟩

theorem leaf_u64 {v : Value} (h : LeafOk P w (.i .u64) v) : ∃ x : UInt64, v = .int .u64 (x.toNat : Int) := by
  obtain ⟨n, rfl, hw⟩ := h
  have hb : 0 ≤ n ∧ n ≤ 18446744073709551615 := by simpa [Lit.wf, IntKind.min, IntKind.max, IntKind.signed, IntKind.bits] using hw
  refine ⟨UInt64.ofNat n.toNat, ?_⟩
  congr 1
  rw [UInt64.toNat_ofNat']
  omega
theorem leaf_i64 {v : Value} (h : LeafOk P w (.i .i64) v) : ∃ n : Int, v = .int .i64 n ∧ -9223372036854775808 ≤ n ∧ n ≤ 9223372036854775807 := by
  obtain ⟨n, rfl, hw⟩ := h
  have hb : -9223372036854775808 ≤ n ∧ n ≤ 9223372036854775807 := by simpa [Lit.wf, IntKind.min, IntKind.max, IntKind.signed, IntKind.bits] using hw
  exact ⟨n, rfl, hb⟩

theorem readable_of {H : Type} {enc : TypeId × Value → H} {base : Nat} {spare : Nat → Bool} {held : Bool} {t : TypeId} {v : Value} {d : DataW H} {p : List MemPlace} (h : DataW.Trod enc P w base spare held t v d p) : Readable P w t v.cells.toList := by
  obtain ⟨fuel, hf⟩ := h
  exact ⟨H, enc, base, spare, held, fuel, _, hf⟩
end

/-- an integer that fits int -/
def I64 (n : Int) : Prop := -9223372036854775808 ≤ n ∧ n ≤ 9223372036854775807
def Ent.Ok (e : Ent) : Prop := I64 e.frm ∧ I64 e.til ∧ I64 e.idx ∧ e.name.size ≤ maxLen ∧ e.tag.size ≤ maxLen
def Peer.Ok (p : Peer) : Prop := p.ent.Ok ∧ I64 p.since ∧ I64 p.under

theorem ent_of {P : Program} {w : World} {cs : List Value} (h : Fits P w [.s, .i .u64, .i .i64, .i .i64, .i .i64, .s] cs) : ∃ e : Ent, cs = e.cells ∧ e.Ok := by
  obtain ⟨v0, r, rfl, h0, h⟩ := fits_cons h
  obtain ⟨v1, r, rfl, h1, h⟩ := fits_cons h
  obtain ⟨v2, r, rfl, h2, h⟩ := fits_cons h
  obtain ⟨v3, r, rfl, h3, h⟩ := fits_cons h
  obtain ⟨v4, r, rfl, h4, h⟩ := fits_cons h
  obtain ⟨v5, r, rfl, h5, h⟩ := fits_cons h
  obtain rfl := fits_nil h
  obtain ⟨nm, rfl, hn⟩ := h0
  obtain ⟨id, rfl⟩ := leaf_u64 h1
  obtain ⟨a, rfl, ha⟩ := leaf_i64 h2
  obtain ⟨b, rfl, hb⟩ := leaf_i64 h3
  obtain ⟨c, rfl, hc⟩ := leaf_i64 h4
  obtain ⟨tg, rfl, ht⟩ := h5
  exact ⟨⟨nm, id, a, b, c, tg⟩, rfl, ha, hb, hc, hn, ht⟩

theorem peer_of {P : Program} {w : World} {cs : List Value} (h : Fits P w [.s, .i .u64, .i .i64, .i .i64, .i .i64, .s, .i .i64, .i .i64] cs) : ∃ p : Peer, cs = p.cells ∧ p.Ok := by
  obtain ⟨v0, r, rfl, h0, h⟩ := fits_cons h
  obtain ⟨v1, r, rfl, h1, h⟩ := fits_cons h
  obtain ⟨v2, r, rfl, h2, h⟩ := fits_cons h
  obtain ⟨v3, r, rfl, h3, h⟩ := fits_cons h
  obtain ⟨v4, r, rfl, h4, h⟩ := fits_cons h
  obtain ⟨v5, r, rfl, h5, h⟩ := fits_cons h
  obtain ⟨v6, r, rfl, h6, h⟩ := fits_cons h
  obtain ⟨v7, r, rfl, h7, h⟩ := fits_cons h
  obtain rfl := fits_nil h
  obtain ⟨nm, rfl, hn⟩ := h0
  obtain ⟨id, rfl⟩ := leaf_u64 h1
  obtain ⟨a, rfl, ha⟩ := leaf_i64 h2
  obtain ⟨b, rfl, hb⟩ := leaf_i64 h3
  obtain ⟨c, rfl, hc⟩ := leaf_i64 h4
  obtain ⟨tg, rfl, ht⟩ := h5
  obtain ⟨d, rfl, hd⟩ := leaf_i64 h6
  obtain ⟨e, rfl, he⟩ := leaf_i64 h7
  exact ⟨⟨⟨nm, id, a, b, c, tg⟩, d, e⟩, rfl, ⟨ha, hb, hc, hn, ht⟩, hd, he⟩

end Go.Proofs.Ythdkgcmoagookaa
