/-
  Walks: sessions with a name closed.
-/
import Derived.Test.YtmfglppgpjplfaaWo
namespace Go.Proofs.Ytmfglppgpjplfaa
open Go.RowKit Go.Proofs.Ytmfglppgpjplfaa.Plan Go.Proofs.Ytmfglppgpjplfaa.Eager
set_option maxHeartbeats 4000000
set_option maxRecDepth 20000
set_option linter.unusedVariables false
set_option linter.unusedSimpArgs false

def isName (name : ByteArray) (s : Ses) : Bool := decide (s.peer.name = name)
def closeD (l : List Ses) (name : ByteArray) : List Ses := l.filter fun s => !isName name s
theorem close_succ (l : List Ses) (name : ByteArray) {k : Nat} (h : k < l.length) : closeD (l.take (k + 1)) name = closeD (l.take k) name ++ (if isName name l[k] then [] else [l[k]]) := by
  unfold closeD
  rw [List.take_succ_eq_append_getElem h, List.filter_append]
  congr 1
  cases hh : isName name l[k] <;> simp [hh]
theorem close_len (l : List Ses) (name : ByteArray) : (closeD l name).length ≤ l.length := List.length_filter_le _ _

theorem isName44 (name : ByteArray) (B : Nat) (s : Ses) (w : World) (hc : w.cell? ⟨B, 0, none⟩ = some (.string name)) :
    Calls Try.prog 44 #[.agg s.cells.toArray, .pointer (some ⟨B, 0, none⟩)] w fun r w' => r = .returned (.bool (isName name s)) ∧ Below w.heap.size w w' := by
  have hlt := World.block_lt_of_cell? w ⟨B, 0, none⟩ hc
  have hal : Below w.heap.size w (w.alloc (.cells s.cells.toArray 30)) := (Below.refl _ _).alloc (Nat.le_refl _) _
  have hc2 := cell_later hc hal
  have hX : Blk (w.alloc (.cells s.cells.toArray 30)) w.heap.size s.cells := Blk.new' rfl
  have x2 : (w.alloc (.cells s.cells.toArray 30)).cell? ⟨w.heap.size, 2, none⟩ = some (.string s.peer.name) := ses_at hX 2 (by omega)
  have hl2 := hX.lt
  have HB := Lib.hid hal
  have HV : Hid (isName name s = decide (s.peer.name = name)) := rfl
  clear hal hX hc
  by_cases h1 : s.peer.name = name
  · have heq : (s.peer.name.toList == name.toList) = true := by rw [strbeq, h1]; simp
    have HR : Hid (isName name s = true) := by show _ = _; rw [HV.out]; simp [h1]
    clear HV h1
    go_enter Try.func44, Try.ntmps44
    go_wp2
    refine bodyPost_ret (v := .bool true) (by simp [results, Try.results44, go_sem, heq]) rfl ⟨by rw [HR.out], HB.out⟩
  · have hne := strne h1
    have HR : Hid (isName name s = false) := by show _ = _; rw [HV.out]; simp [h1]
    clear HV h1
    go_enter Try.func44, Try.ntmps44
    go_wp2
    refine bodyPost_ret (v := .bool false) (by simp [results, Try.results44, go_sem, hne]) rfl ⟨by rw [HR.out], HB.out⟩
theorem eg44 : ∀ args w, (callFunc 44 args).run Try.prog w = .ok (.enter 44 args) w := fun args w => by simp

theorem refClose27 (l : List Ses) (name : ByteArray) (w : World) (oa : Option Addr) (n c : Nat) (h : RSes w oa n c l) (hl : l.length ≤ 900) :
    Calls Try.prog 27 #[.slice oa n c, .string name] w (DropOk w (closeD l name)) := by
  obtain rfl : n = l.length := h.rows.len
  have H := Lib.hid h; have HL := Lib.hid hl; clear h hl
  go_enter Try.func27, Try.ntmps27
  go_wp2
  go_loopw [5, 6] (fun v i wr => ∃ k : Nat, k ≤ l.length ∧ i = .int .i64 k ∧ Hid (Own wr w.heap.size 30 20 v (closeD (l.take k) name).length ((closeD (l.take k) name).flatMap Ses.cells)) ∧ Hid (Below w.heap.size w wr)) (fun _ i _ => l.length - (intOf i).toNat)
  case atStart => exact ⟨0, by omega, rfl, Lib.hid (Own.nil _ _ _ _), by (with_reducible try refine Lib.hid ?_); (repeat (with_reducible first | assumption | exact Below.refl _ _ | apply Below.drew | apply Below.drewN' | apply Below.setCell | apply Below.alloc)) <;> (try simp [length_fillTo, length_turnTo]) <;> (try omega)⟩
  case round =>
    obtain ⟨k, hk, rfl, hO, hbel⟩ := hrel
    by_cases hlt : k < l.length
    · have hi1 : (k : Int) < (l.length : Int) := by omega
      have rk : IntKind.i64.wrap ((k : Int) + 1) = ((k + 1 : Nat) : Int) := by
        have h1 := HL.out
        rw [IntKind.wrap_i64]; omega
      have HT := Lib.hid (close_succ l name hlt)
      have hlen : (closeD (l.take k) name).length ≤ 900 := by
        have h1 := close_len (l.take k) name
        have h2 := HL.out
        simp only [List.length_take] at h1
        omega
      obtain ⟨b1, p1, rfl, hA⟩ := (H.out.rows.below hbel.out).ses hlt
      obtain ⟨s, hs⟩ : ∃ s, l[k] = s := ⟨_, rfl⟩
      rw [hs] at hA HT
      clear hs
      obtain ⟨L, hL⟩ : ∃ L, closeD (l.take k) name = L := ⟨_, rfl⟩
      rw [hL] at hO HT hlen
      have HLEN := Lib.hid hlen
      clear hL hlen
      have x2 : wr.cell? ⟨b1, p1 + k * 20 + 2, none⟩ = some (.string s.peer.name) := hA.get 2 (by simp [Ses.cells])
      have hxl := hA.lt
      by_cases hka : s.peer.name = name
      · have hin : isName name s = true := by unfold isName; simp [hka]
        rw [if_pos hin, List.append_nil] at HT
        have heq : (s.peer.name.toList == name.toList) = true := by rw [strbeq, hka]; simp
        clear hka hin hA
        go_wp2_with fail
        go_roundw
        case measure => (simp [intOf]) <;> omega
        case rel => exact ⟨k + 1, by omega, rfl, Lib.hid (by rw [HT.out]; exact hO.out), hbel⟩
      · have hin : ¬ isName name s = true := by unfold isName; simp [hka]
        rw [if_neg hin] at HT
        have hne := strne hka
        have hal2 : Below wr.heap.size wr (wr.alloc (.cells s.cells.toArray 30)) := (Below.refl _ _).alloc (Nat.le_refl _) _
        have hN3 : Blk (wr.alloc (.cells s.cells.toArray 30)) wr.heap.size s.cells := Blk.new' rfl
        have HO5 := Lib.hid (hO.out.later hal2); have HB5 := Lib.hid (below_step hbel.out hal2); have HN3 := Lib.hid hN3
        clear hal2 hN3 hO hbel hka hin
        go_wp2_with (refine stop_load (ty := 30) rfl ?_)
        refine ⟨wpList_load_at rfl rfl hA (by rfl) row30 ?_⟩
        clear hA x2
        have hlc := cells_20 s
        go_wp2_with (refine stop_append rfl ?_)
        rw [fold_ses s]
        clear hlc
        have hlen := HLEN.out
        refine ⟨wpList_app el22 rfl (by rfl) (by rfl) HO5.out (by rfl) (m := 1) rfl HN3.out.cells (ses_one s) (by simp [maxLen]; omega) (by omega) HB5.out.size ?_⟩
        intro v6 W6 hO6 hg6
        have hb6 := HO5.out.below hg6 HB5.out (Nat.le_refl _) HB5.out.size
        have HO6 := Lib.hid hO6; have HB6 := Lib.hid hb6
        clear hO6 hg6 hb6 hlen HO5 HB5 HN3
        go_wp2_with fail
        go_roundw
        case measure => (simp [intOf]) <;> omega
        case rel => exact ⟨k + 1, by omega, rfl, Lib.hid (by rw [HT.out]; simpa using HO6.out), HB6⟩
    · obtain rfl : k = l.length := by omega
      rw [List.take_length] at hO
      have HO := hO; have HB := hbel; clear hO hbel
      go_wp2
      refine bodyPost_ret (v := u5) (by simp [results, Try.results27, go_sem]) rfl ⟨_, rfl, HO.out, HB.out⟩

/-- a list whose first ones are these, the later ones as they were -/
structure Kept (l K M : List Ses) (j : Nat) : Prop where
  len : K.length = l.length
  le : M.length ≤ j
  pre : K.take M.length = M
  post : ∀ i (h : i < K.length) (h' : i < l.length), j ≤ i → K[i] = l[i]
theorem Kept.put {l K M : List Ses} {j : Nat} (h : Kept l K M j) (hj : j < l.length) (s : Ses) : Kept l (K.set M.length s) (M ++ [s]) (j + 1) := by
  have hl := h.len
  have hle := h.le
  refine ⟨by simp [h.len], by simp; omega, ?_, fun i hi hi' hji => ?_⟩
  · rw [List.length_append, List.length_singleton, List.take_succ_eq_append_getElem (by simp; omega), List.getElem_set_self, List.take_set_of_le (Nat.le_refl _), h.pre]
  · rw [List.getElem_set_ne (by omega)]
    exact h.post i (by simpa using hi) hi' (by omega)
theorem Kept.pass {l K M : List Ses} {j : Nat} (h : Kept l K M j) : Kept l K M (j + 1) := ⟨h.len, Nat.le_succ_of_le h.le, h.pre, fun i hi hi' hji => h.post i hi hi' (by omega)⟩
theorem idx_split (p : Ses → Bool) (l : List Ses) (q : Int) (hq : idxD p l = q) : (q = -1 ∧ ∀ s ∈ l, p s = false) ∨ ∃ i : Nat, q = (i : Int) ∧ i < l.length ∧ Kept l l (l.take i) (i + 1) ∧ (l.take (i + 1)).filter (fun s => !p s) = l.take i := by
  subst hq
  unfold idxD
  cases h : l.findIdx? p with
  | none =>
    rw [List.findIdx?_eq_none_iff] at h
    exact .inl ⟨rfl, fun s hs => by simpa using h s hs⟩
  | some i =>
    rw [List.findIdx?_eq_some_iff_getElem] at h
    obtain ⟨hi, h1, h2⟩ := h
    refine .inr ⟨i, rfl, hi, ⟨rfl, by simp; omega, ?_, fun _ _ _ _ => rfl⟩, ?_⟩
    · have : (l.take i).length = i := by simp; omega
      rw [this]
    · rw [List.take_succ_eq_append_getElem hi, List.filter_append]
      have e1 : (l.take i).filter (fun s => !p s) = l.take i := by
        rw [List.filter_eq_self]
        intro s hs
        obtain ⟨j, hj, rfl⟩ := List.getElem_of_mem hs
        have hj2 : j < i := by simp at hj; omega
        rw [List.getElem_take]
        have := h2 j hj2
        simpa using this
      rw [e1]; simp [h1]
def DelOk (w : World) (base : Nat) (row : Option Nat) (l : List Ses) (e : Ending) (w' : World) : Prop :=
  ∃ v, e = .returned v ∧ Own w' base 30 20 v l.length (l.flatMap Ses.cells) ∧ Below base w w'
end Go.Proofs.Ytmfglppgpjplfaa
