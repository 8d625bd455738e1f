/-
  The plain law of a map that is told: what it tells is judged right, and what is known then is what it has.
-/
import Derived.Test.YtnfkjicoielpnaaWl
namespace Go.Proofs.Ytnfkjicoielpnaa
open Go.RowKit
set_option maxHeartbeats 1000000
set_option linter.unusedVariables false
set_option linter.unusedSimpArgs false

def stIt (x : It) : St := ⟨x.val, x.ver, !x.gone, false⟩
def pr (x : It) : KSt := (x.key, stIt x)
def newIt (k : ByteArray) : It := ⟨k, nos, 0, true⟩
/-- what stands at the key's place behind a deed -/
def turn1 (x : It) (r : Res) : It := if r.kind = 1 then ⟨r.key, r.val, x.ver + 1, false⟩ else x
def turn2 (x : It) (r : Res) : It := if r.kind = 2 then ⟨r.key, nos, x.ver + 1, true⟩ else x
def tell (x : It) (r : Res) : Res := ⟨0, r.kind, x.ver, r.key, x.val, !x.gone, x.gone, 0⟩

structure Inv (k : Nat) (m : List It) (told : List Res) : Prop where
  sts : stsOf told = m.map pr
  len : told.length = k
  mlen : m.length ≤ k
  ver : ∀ x ∈ m, 0 ≤ x.ver ∧ x.ver ≤ k
  gone : ∀ x ∈ m, x.gone = true → x.val = nos
  fit : ∀ j, j < k → fitAt told j = true

/-- in a round, where the key has a place -/
structure Inv2 (k : Nat) (m : List It) (told : List Res) (j : Nat) (key : ByteArray) (x : It) : Prop where
  withK : withK (stsOf told) key = m.map pr
  at' : atK (stsOf told) key = j
  get : m[j]? = some x
  key : x.key = key
  len : told.length = k
  mlen : m.length ≤ k + 1
  ver : ∀ x ∈ m, 0 ≤ x.ver ∧ x.ver ≤ k
  gone : ∀ x ∈ m, x.gone = true → x.val = nos
  fit : ∀ j, j < k → fitAt told j = true

theorem Inv.start : Inv 0 [] [] := ⟨rfl, rfl, Nat.le_refl _, by simp, by simp, fun j h => by omega⟩

theorem Inv.old {k : Nat} {m : List It} {told : List Res} (h : Inv k m told) {j : Nat} (hj : j < m.length) {key : ByteArray} (hk : m[j].key = key) : Inv2 k m told j key m[j] := by
  have hlen : (stsOf told).length = m.length := by rw [h.sts]; simp
  have hmem : key ∈ keysOf told := by
    have h1 : (pr m[j]).1 ∈ (stsOf told).map Prod.fst := by
      rw [h.sts]; exact List.mem_map.2 ⟨pr m[j], List.mem_map.2 ⟨m[j], List.getElem_mem hj, rfl⟩, rfl⟩
    have h2 : (stsOf told).map Prod.fst = keysOf told := by simp [stsOf, Function.comp_def]
    rw [h2] at h1
    rw [← hk]; exact h1
  have hlt := atK_mem hmem
  have hat : atK (stsOf told) key = j := by
    have hg := atK_get hlt
    have hkeys : (stsOf told).map Prod.fst = keysOf told := by simp [stsOf, Function.comp_def]
    have h3 : (keysOf told)[atK (stsOf told) key]? = some key := by
      rw [← hkeys, List.getElem?_map, List.getElem?_eq_getElem hlt, hg]; rfl
    have h4 : (keysOf told)[j]? = some key := by
      rw [← hkeys, List.getElem?_map, h.sts, List.getElem?_map, List.getElem?_eq_getElem hj]
      simp [pr, hk]
    obtain ⟨a1, b1⟩ := List.getElem?_eq_some_iff.1 h3
    obtain ⟨a2, b2⟩ := List.getElem?_eq_some_iff.1 h4
    have hnd := List.pairwise_iff_getElem.1 (keysOf_nodup told)
    rcases Nat.lt_trichotomy (atK (stsOf told) key) j with h' | h' | h'
    · exact absurd (b1.trans b2.symm) (hnd _ _ a1 a2 h')
    · exact h'
    · exact absurd (b2.trans b1.symm) (hnd _ _ a2 a1 h')
  refine ⟨?_, hat, List.getElem?_eq_getElem hj, hk, h.len, by have := h.mlen; omega, h.ver, h.gone, h.fit⟩
  unfold Go.Proofs.Ytnfkjicoielpnaa.withK
  rw [if_pos hlt, h.sts]

theorem Inv.new {k : Nat} {m : List It} {told : List Res} (h : Inv k m told) {key : ByteArray} (hk : ∀ j (hj : j < m.length), m[j].key ≠ key) : Inv2 k (m ++ [newIt key]) told m.length key (newIt key) := by
  have hlen : (stsOf told).length = m.length := by rw [h.sts]; simp
  have hat : atK (stsOf told) key = m.length := by
    rw [← hlen]
    apply atK_end
    intro j hj
    have hj2 : j < m.length := by omega
    have e : (stsOf told)[j] = pr m[j] := by simp [h.sts]
    rw [e]
    exact hk j hj2
  refine ⟨?_, hat, by simp, rfl, h.len, by have := h.mlen; simp; omega, ?_, ?_, h.fit⟩
  · unfold Go.Proofs.Ytnfkjicoielpnaa.withK
    rw [if_neg (by omega), h.sts, List.map_append]
    rfl
  · intro x hx
    rcases List.mem_append.1 hx with hx | hx
    · exact h.ver x hx
    · obtain rfl : x = newIt key := by simpa using hx
      exact ⟨by simp [newIt], by simp [newIt]⟩
  · intro x hx
    rcases List.mem_append.1 hx with hx | hx
    · exact h.gone x hx
    · obtain rfl : x = newIt key := by simpa using hx
      exact fun _ => rfl

theorem Inv2.next {k : Nat} {m : List It} {told : List Res} {j : Nat} {r : Res} {x : It} (h : Inv2 k m told j r.key x) :
    Inv (k + 1) (m.set j (turn2 (turn1 x r) r)) (told ++ [tell (turn2 (turn1 x r) r) r]) := by
  obtain ⟨hj, hx⟩ := List.getElem?_eq_some_iff.1 h.get
  have hxm : x ∈ m := hx ▸ List.getElem_mem hj
  have hv := h.ver x hxm
  have hg := h.gone x hxm
  have hs : known (ofKey told r.key) = stIt x := by
    have h1 := withK_get? told r.key
    rw [h.withK, h.at', List.getElem?_map, h.get] at h1
    have h2 : pr x = (r.key, known (ofKey told r.key)) := by simpa using h1
    exact (congrArg Prod.snd h2).symm
  obtain ⟨y, hy⟩ : ∃ y, turn2 (turn1 x r) r = y := ⟨_, rfl⟩
  have hykey : y.key = r.key := by
    rw [← hy]; unfold turn2 turn1
    have := h.key
    by_cases h1 : r.kind = 1
    · have h2 : ¬ r.kind = 2 := by omega
      simp [h1]
    · by_cases h2 : r.kind = 2 <;> simp [h1, h2, this]
  have hyver : 0 ≤ y.ver ∧ y.ver ≤ (k + 1 : Nat) := by
    rw [← hy]; unfold turn2 turn1
    by_cases h1 : r.kind = 1
    · have h2 : ¬ r.kind = 2 := by omega
      simp [h1]; omega
    · by_cases h2 : r.kind = 2 <;> simp [h1, h2] <;> omega
  have hygone : y.gone = true → y.val = nos := by
    rw [← hy]; unfold turn2 turn1
    by_cases h1 : r.kind = 1
    · simp [h1]
    · by_cases h2 : r.kind = 2 <;> simp [h1, h2]
      exact hg
  have hafter : after (stIt x) (tell y r) = stIt y := by
    rw [← hy]; unfold turn2 turn1 after tell stIt got
    by_cases h1 : r.kind = 1
    · simp [h1]
    · by_cases h2 : r.kind = 2
      · simp [h2]
      · by_cases h3 : r.kind = 3
        · simp [h3]
          cases hxg : x.gone
          · simp
          · simp [hg hxg]
        · simp [h1, h2, h3]
  have hfit : fits (stIt x) (tell y r) = true := by
    rw [← hy]; unfold turn2 turn1 fits tell stIt got seen
    by_cases h1 : r.kind = 1
    · simp [h1]; omega
    · by_cases h2 : r.kind = 2
      · simp [h2]; omega
      · by_cases h3 : r.kind = 3
        · simp [h3]
        · simp [h1, h2, h3]
  rw [hy]
  have hset := withK_set told (tell y r)
  have hkey : (tell y r).key = r.key := rfl
  rw [hkey, h.withK, h.at', hs, hafter] at hset
  refine ⟨?_, ?_, ?_, ?_, ?_, ?_⟩
  · rw [← hset, List.map_set]
    congr 1
    unfold pr; rw [hykey]
  · simp [h.len]
  · simpa using h.mlen
  · intro z hz
    rcases List.mem_or_eq_of_mem_set hz with hz | rfl
    · have := h.ver z hz; omega
    · exact hyver
  · intro z hz
    rcases List.mem_or_eq_of_mem_set hz with hz | rfl
    · exact h.gone z hz
    · exact hygone
  · intro i hi
    by_cases hik : i = k
    · subst hik
      unfold fitAt
      have hl := h.len
      have e1 : (told ++ [tell y r])[i]? = some (tell y r) := by rw [← hl]; simp
      have e2 : (told ++ [tell y r]).take i = told := by rw [← hl]; simp
      rw [e1, e2]
      simp only [hkey, hs, hfit]
    · have hlt : i < k := by omega
      have hf := h.fit i hlt
      unfold fitAt at hf ⊢
      have hl := h.len
      have e1 : (told ++ [tell y r])[i]? = told[i]? := List.getElem?_append_left (by omega)
      have e2 : (told ++ [tell y r]).take i = told.take i := List.take_append_of_le_length (by omega)
      rw [e1, e2]
      exact hf

def liveOf (m : List It) : List It := m.filter fun x => !x.gone
theorem liveOf_succ (m : List It) {k : Nat} (h : k < m.length) : liveOf (m.take (k + 1)) = liveOf (m.take k) ++ (if m[k].gone then [] else [m[k]]) := by
  unfold liveOf
  rw [List.take_succ_eq_append_getElem h, List.filter_append]
  congr 1
  cases hg : m[k].gone <;> simp [hg]
theorem Inv.map {k : Nat} {m : List It} {told : List Res} (h : Inv k m told) : mapD told = liveOf m := by
  unfold mapD mapUp liveOf
  rw [h.sts]
  have : ∀ m : List It, (m.map pr).filterMap itOf = m.filter fun x => !x.gone := by
    intro m
    induction m with
    | nil => rfl
    | cons x m ih =>
      rw [List.map_cons, List.filterMap_cons, ih, List.filter_cons]
      cases hg : x.gone
      · have : itOf (pr x) = some x := by unfold itOf pr stIt; simp [hg]; rw [← hg]
        rw [this]; simp
      · have : itOf (pr x) = none := by unfold itOf pr stIt; simp [hg]
        rw [this]; simp
  exact this m
theorem Inv.judge {k : Nat} {m : List It} {told : List Res} (h : Inv k m told) : judgeD told = -1 := judgeD_none told (fun j hj => h.fit j (by have := h.len; omega))

theorem judgeD_pre (l : List Res) (h : judgeD l = -1) (n : Nat) : judgeD (l.take n) = -1 := by
  have hall : ∀ j, j < l.length → fitAt l j = true := by
    unfold judgeD at h
    split at h
    · omega
    · rename_i e
      rw [List.find?_range_eq_none] at e
      intro j hj
      simpa using e j hj
  apply judgeD_none
  intro j hj
  have hj1 : j < n := by simp at hj; omega
  have hj2 : j < l.length := by simp at hj; omega
  have hf := hall j hj2
  unfold fitAt at hf ⊢
  have e1 : (l.take n)[j]? = l[j]? := by rw [List.getElem?_take, if_pos hj1]
  have e2 : (l.take n).take j = l.take j := by rw [List.take_take, Nat.min_eq_left (by omega)]
  rw [e1, e2]
  exact hf
end Go.Proofs.Ytnfkjicoielpnaa
