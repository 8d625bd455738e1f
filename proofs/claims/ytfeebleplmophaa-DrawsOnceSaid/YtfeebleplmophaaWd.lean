/-
  Walks: a number is marked; whether one was seen.
-/
import Derived.Test.YtfeebleplmophaaWc
namespace Go.Proofs.Ytfeebleplmophaa
open Go.RowKit
set_option maxHeartbeats 1000000
set_option maxRecDepth 20000
set_option linter.unusedVariables false
set_option linter.unusedSimpArgs false

/-- a map that holds just these numbers -/
def HasIs (D : DataW Unit) (S : List Nat) : Prop := ∀ x : Nat, x < 18446744073709551616 → Maps.has D (.int .u64 x) = decide (x ∈ S)
theorem has_nil : HasIs (.map []) [] := fun x _ => rfl
theorem wf_u64 (n : Nat) (h : n < 18446744073709551616) : (Lit.int .u64 (n : Int)).wf = true := by
  have h1 : IntKind.u64.min = 0 := by decide
  have h2 : IntKind.u64.max = 18446744073709551615 := by decide
  simp [Lit.wf, h1, h2]; omega
theorem key_u64 (n : Nat) (h : n < 18446744073709551616) : keyOf Try.prog 30 (.int .u64 (n : Int)) = some (.int .u64 (n : Int)) := Maps.keyOf_int_mk Try.underlying30 (wf_u64 n h)
theorem has_put {w : World} {m k : Nat} {D : DataW Unit} (h : w.ownsMap Try.prog 30 unitElem m k D) {S : List Nat} (hD : HasIs D S) (n : Nat) (hn : n < 18446744073709551616) (d : DataW Unit) : HasIs (D.put (.int .u64 (n : Int)) d) (S ++ [n]) := by
  intro x hx
  by_cases e : x = n
  · subst e
    rw [Maps.has_put_same h.isMap ((Maps.int_keyed Try.underlying30).key (key_u64 x hn))]
    simp
  · rw [Maps.has_put_other (fun h => e (by have := congrArg (fun l => match l with | Lit.int _ z => z | _ => 0) h; simp at this; omega)), hD x hx]
    simp [e]
theorem do_any (b : Nat) (pl : Addr) (hpb : ¬ b = pl.block) (d : Int) (v s x : Value) (w : World) (om : Option Nat) (S : List Nat) (hp : w.cell? pl = some (.pointer (some ⟨b, 0, none⟩))) (hB : Blk w b [.int .u32 d, .int .i32 0, .int .u32 0, v, s, x])
    (hs : SetIs w s om S) (hd : (om = none ∧ d = 0) ∨ ((∃ m, om = some m) ∧ d = 1)) :
    Calls Try.prog 18 #[.pointer (some ⟨b, 0, none⟩), .func (.func 19) #[] #[.pointer (some pl)]] w fun e w' => e = .returned (.tuple #[]) ∧ ∃ m D, (Blk w' b [.int .u32 1, .int .i32 0, .int .u32 0, v, .map (some m), x] ∧ w'.ownsMap (H := Unit) Try.prog 30 unitElem m S.length D ∧ HasIs D S) ∧ (om = some m ∨ w.heap.size ≤ m) ∧ Kept [b] w w' := by
  rcases hd with ⟨rfl, rfl⟩ | ⟨⟨m, rfl⟩, rfl⟩
  · rcases hs with ⟨rfl, -, rfl⟩ | ⟨m, D, -, e, -⟩
    · refine (do_first b pl hpb v _ x w hp hB).mono ?_
      rintro e w' ⟨rfl, m, h1, h2, h3, h4⟩
      exact ⟨rfl, m, _, ⟨h1, h2, has_nil⟩, .inr h3, h4⟩
    · cases e
  · rcases hs with ⟨-, e, -⟩ | ⟨m', D, rfl, e, hm, hD⟩
    · cases e
    · cases e
      refine (do_done b pl v _ x w hB).mono ?_
      rintro e w' ⟨rfl, rfl⟩
      exact ⟨rfl, m, D, ⟨hB, hm, hD⟩, .inl rfl, Kept.refl _ _⟩

theorem mark16 (b : Nat) (og om : Option Nat) (S L : List Nat) (nx n : Nat) (w : World) (h : Pool w b og om S L nx) (hn : n < 18446744073709551616) (hS : S.length ≤ 1000000) :
    Calls Try.prog 16 #[.pointer (some ⟨b, 0, none⟩), .int .u64 n] w fun e w' => e = .returned (.tuple #[]) ∧ PoolTo w b og om (S ++ [n]) L nx w' := by
  obtain ⟨d, v, s, hB, hq, hs, hd⟩ := h.mem
  have hbl := hB.lt
  have hk0 : Kept [] w (w.alloc (.cells #[.pointer (some ⟨b, 0, none⟩)] 24)) := Kept.alloc _
  have hp : (w.alloc (.cells #[.pointer (some ⟨b, 0, none⟩)] 24)).cell? ⟨w.heap.size, 0, none⟩ = some (.pointer (some ⟨b, 0, none⟩)) := by simp
  have HC := Lib.hid (do_any b ⟨w.heap.size, 0, none⟩ (by simp; omega) d v s (UV nx) _ om S hp (hB.alloc _) (hs.kept hk0 (fun m _ hm => by cases hm)) hd)
  have hmf : ∀ (fn : Fn) (first cap : Array Value) (w : World), (Instr.makeFunc fn first cap).run Try.prog w = .ok (.func fn first cap) w := fun _ _ _ _ => rfl
  have hXB : Blk (w.alloc (.cells #[.pointer (some ⟨b, 0, none⟩)] 24)) w.heap.size [.pointer (some ⟨b, 0, none⟩)] := Blk.new' rfl
  have HXB := Lib.hid hXB; have HK0 := Lib.hid hk0; have HP := Lib.hid h; have HQ := Lib.hid hq; have HS := Lib.hid hs
  have hsz : (w.alloc (.cells #[.pointer (some ⟨b, 0, none⟩)] 24)).heap.size = w.heap.size + 1 := by simp
  have HSZ := Lib.hid hsz
  clear hB hq hs hd hXB hk0 h hsz
  go_enter Try.func16, Try.ntmps16
  go_wp2_with fail
  refine HC.out.mono ?_
  rintro r w2 ⟨rfl, m, D, ⟨hB2, hm2, hD⟩, hom, hk2⟩
  have hX2 := HXB.out.kept hk2 (by simp; omega)
  have hp2 : w2.cell? ⟨w.heap.size, 0, none⟩ = some (.pointer (some ⟨b, 0, none⟩)) := hX2.at' 0 (by simp)
  have c4 : w2.cell? ⟨b, 4, none⟩ = some (.map (some m)) := hB2.at' 4 (by simp)
  have hbl2 := hB2.lt
  have hxl := hX2.lt
  have hmb : ¬ m = b := by
    intro e
    subst e
    rcases hom with e | e
    · exact HP.out.mb e
    · have := HSZ.out; omega
  have hmx : ¬ m = w.heap.size := by
    rcases hom with e | e
    · have := HS.out.lt m e; omega
    · have := HSZ.out; omega
  have hK2 : Kept [b] w w2 := (HK0.out.mono (G := [b]) (fun x hx => by cases hx)).trans hk2 (fun x hx => .inl hx)
  have HB2 := Lib.hid hB2; have HD := Lib.hid hD; have HOM := Lib.hid hom; have HK2 := Lib.hid hK2; have HMB := Lib.hid hmb
  have hkey := key_u64 n hn
  clear hB2 hk2 hX2 HC HXB hmf hD hom hK2 hmb hmx
  go_wp2_with (first | (at_mapUpdate; refine wpList_mapUpdate_own _ rfl _ _ _ 54 rfl 30 42 (Maps.int_keyed Try.underlying30) Try.underlying54 unitElem m S.length D rfl hm2 (by simp [maxLen]; omega) _ _ (.int .u64 n) rfl rfl hkey (.agg []) [] unitElem_mk ?_; intro w3 hown hgrow) | fail)
  go_end0
  have hom : om = some m ∨ w.heap.size ≤ m := by
    rcases HOM.out with e | e
    · exact .inl e
    · have := HSZ.out; exact .inr (by omega)
  have hgm : ∀ g, og = some g → g ≠ m := by
    intro g hg e
    subst e
    rcases hom with e | e
    · exact HP.out.gm g hg e
    · have := HQ.out.lt g hg; omega
  have hkg : Kept [m] w2 w3 := Kept.grown hgrow
  have hq3 : Que w3 v og L := (HQ.out.kept HK2.out (fun g hg hx => HP.out.gb (by rw [hg, List.mem_singleton.1 hx]))).kept hkg (fun g hg hx => hgm g hg (List.mem_singleton.1 hx))
  have hmb := HMB.out
  refine ⟨rfl, og, some m, ⟨⟨1, v, .map (some m), HB2.out.kept hkg (by simp; exact fun e => hmb e.symm), hq3, .inr ⟨m, _, rfl, rfl, ?_, has_put hm2 HD.out n hn (.agg [])⟩, .inr ⟨⟨m, rfl⟩, rfl⟩⟩, HP.out.gb, fun e => hmb (Option.some.inj e), fun g hg e => hgm g hg (Option.some.inj e).symm⟩, ?_, New.refl _ _, ?_⟩
  · rw [List.length_append]; exact hown
  · refine (HK2.out.mono (G := foot b og om) (fun x hx => mem_foot.2 (.inl (List.mem_singleton.1 hx)))).trans hkg ?_
    intro x hx
    rw [List.mem_singleton.1 hx]
    rcases hom with e | e
    · exact .inl (mem_foot.2 (.inr (.inr e)))
    · exact .inr e
  · intro k hk
    cases hk
    exact hom

theorem seen14 (b : Nat) (og om : Option Nat) (S L : List Nat) (nx n : Nat) (w : World) (h : Pool w b og om S L nx) (hn : n < 18446744073709551616) :
    Calls Try.prog 14 #[.pointer (some ⟨b, 0, none⟩), .int .u64 n] w fun e w' => e = .returned (.bool (decide (n ∈ S))) ∧ Below w.heap.size w w' := by
  obtain ⟨d, v, s, hB, hq, hs, hd⟩ := h.mem
  have c4 := hB.at' 4 (by simp)
  have hbl := hB.lt
  simp only [List.getElem_cons_zero, List.getElem_cons_succ] at c4
  have hkey := key_u64 n hn
  have hz : ∀ W, (zeroValue 42).run Try.prog W = .ok (.agg #[]) W := fun W => by kernel_rfl
  rcases hs with ⟨rfl, -, rfl⟩ | ⟨m, D, rfl, e, hm, hD⟩
  · have hl := Maps.look_nil (P := Try.prog) (w := w) (t := 54) (k := 30) (e := 42) true (Maps.int_keyed Try.underlying30) Try.underlying54 (hz w) hkey
    clear hB hq hd h
    go_enter Try.func14, Try.ntmps14
    go_wp2
    refine bodyPost_ret (v := .bool false) (by simp [results, Try.results14, go_sem]) rfl ⟨rfl, by (with_reducible try refine Lib.hid ?_); (repeat (with_reducible first | assumption | exact Below.refl _ _ | apply Below.drew | apply Below.drewN' | apply Below.setCell | apply Below.alloc)) <;> (try simp [length_fillTo, length_turnTo]) <;> (try omega)⟩
  · obtain ⟨v', ps, hl, hv⟩ := hm.look_ok (t := 54) (e := 42) (zd := .agg []) (zp := []) (Maps.int_keyed Try.underlying30) Try.underlying54 (hz w) unitElem_mk hkey
    obtain ⟨rfl, -⟩ := unitElem_inv hv
    rw [hD n hn] at hl
    obtain ⟨q, hqq⟩ : ∃ q, decide (n ∈ S) = q := ⟨_, rfl⟩
    rw [hqq] at hl ⊢
    clear hB hq hd h hm hD hv hqq
    go_enter Try.func14, Try.ntmps14
    go_wp2
    refine bodyPost_ret (v := .bool q) (by simp [results, Try.results14, go_sem]) rfl ⟨rfl, by (with_reducible try refine Lib.hid ?_); (repeat (with_reducible first | assumption | exact Below.refl _ _ | apply Below.drew | apply Below.drewN' | apply Below.setCell | apply Below.alloc)) <;> (try simp [length_fillTo, length_turnTo]) <;> (try omega)⟩
theorem seen_nil (v : Value) (w : World) : Calls Try.prog 14 #[.pointer none, v] w fun e w' => e = .returned (.bool false) ∧ Below w.heap.size w w' := by
  go_enter Try.func14, Try.ntmps14
  go_wp2
  refine bodyPost_ret (v := .bool false) (by simp [results, Try.results14, go_sem]) rfl ⟨rfl, Below.refl _ _⟩
end Go.Proofs.Ytfeebleplmophaa
