/-
  No cell of these rows narrows 'for every input' (looked for: loops, veiled, ifaces, maps, wideKeys, modest, calm, conditions, laid).
  DERIVED. THE GIVEN ROWS OF THIS SEAT. 3 by the template 'for every input the law returns true; each argument reads behind the call as it read before'; 0 by the template 'total and deterministic' (their statements: YtlheepcojeaeaaaTotals.lean).
  GIVEN WITH THE SEED: the statements are not yours to turn. If you find one false, say at which input.
  Laid BY PROGRAM, IN A SANDBOX (cutbox-rows.mjs): the forced cells as the released guide's own fill.sh prints them over the translation de33a5ab4a350964… (all of the seat's roots in one cut). By AI agents, Wed Nov 11 2026. No macro, syntax, notation, axiom, sorry.
-/
import Derived.Test.YtlheepcojeaeaaaChecked
import GoSem.Claim
import GoSem.ClaimJoined
import GoSem.ClaimMapViews
import Derived.JoinedTies
import Derived.KernelRfl
namespace Go.Proofs.Ytlheepcojeaeaaa
/- THE CELL 'sum', in the pinned program and in every row, IS THE sha256 OF THE DUMP (.gsa) THAT YtlheepcojeaeaaaProg.lean LOADS. Nothing in Lean hashes anything: it is a label: what it is worth is what the hold of that sum in a sandbox is worth. -/
noncomputable def Try.pinned : Pinned := { name := "ytlheepcojeaeaaa", sum := "de33a5ab4a350964ab43e72969c535efe2fb5ddba9b3f52f4f7b9202dd892fb4", checked := Try.checked }
namespace Rows
def none {H : Type} : Left H := { results := [], args := [] }

/-- 'carcanetlaw07.PolyNothing': WHATEVER THE INPUT: true; the input reads as it did. -/
def polyNothingSpec : ChangeSpec := { name := "polyNothing", fn := fun _ => fun
  | [d1, d2] => { results := [.lit (.bool true)], args := [d1, d2] }
  | _ => none }
def polyNothingRow : OpenClaim := { program := "ytlheepcojeaeaaa", sum := "de33a5ab4a350964ab43e72969c535efe2fb5ddba9b3f52f4f7b9202dd892fb4", func := "carcanet/carcanetlaw07.PolyNothing", spec := "polyNothing", apart := false }
def PolyNothingSaid : Prop := polyNothingRow.holds Try.pinned (OpenSpec.ofChange polyNothingSpec)

/-- ITS FALSE NEIGHBOUR: 'it returns false'. Refute it at one input. -/
def polyNothingWrong : ChangeSpec := { name := "polyNothing", fn := fun _ => fun
  | [d1, d2] => { results := [.lit (.bool false)], args := [d1, d2] }
  | _ => none }
def PolyNothingWrongFalsely : Prop := polyNothingRow.holds Try.pinned (OpenSpec.ofChange polyNothingWrong)

/-- 'carcanetlaw07.PolyTags': WHATEVER THE INPUT: true; the input reads as it did. -/
def polyTagsSpec : ChangeSpec := { name := "polyTags", fn := fun _ => fun
  | [d1, d2, d3] => { results := [.lit (.bool true)], args := [d1, d2, d3] }
  | _ => none }
def polyTagsRow : OpenClaim := { program := "ytlheepcojeaeaaa", sum := "de33a5ab4a350964ab43e72969c535efe2fb5ddba9b3f52f4f7b9202dd892fb4", func := "carcanet/carcanetlaw07.PolyTags", spec := "polyTags", apart := false }
def PolyTagsSaid : Prop := polyTagsRow.holds Try.pinned (OpenSpec.ofChange polyTagsSpec)

/-- ITS FALSE NEIGHBOUR: 'it returns false'. Refute it at one input. -/
def polyTagsWrong : ChangeSpec := { name := "polyTags", fn := fun _ => fun
  | [d1, d2, d3] => { results := [.lit (.bool false)], args := [d1, d2, d3] }
  | _ => none }
def PolyTagsWrongFalsely : Prop := polyTagsRow.holds Try.pinned (OpenSpec.ofChange polyTagsWrong)

/-- 'carcanetlaw07.PolyOnce': WHATEVER THE INPUT: true; the input reads as it did. -/
def polyOnceSpec : ChangeSpec := { name := "polyOnce", fn := fun _ => fun
  | [d1, d2, d3, d4] => { results := [.lit (.bool true)], args := [d1, d2, d3, d4] }
  | _ => none }
def polyOnceRow : OpenClaim := { program := "ytlheepcojeaeaaa", sum := "de33a5ab4a350964ab43e72969c535efe2fb5ddba9b3f52f4f7b9202dd892fb4", func := "carcanet/carcanetlaw07.PolyOnce", spec := "polyOnce", apart := false }
def PolyOnceSaid : Prop := polyOnceRow.holds Try.pinned (OpenSpec.ofChange polyOnceSpec)

/-- ITS FALSE NEIGHBOUR: 'it returns false'. Refute it at one input. -/
def polyOnceWrong : ChangeSpec := { name := "polyOnce", fn := fun _ => fun
  | [d1, d2, d3, d4] => { results := [.lit (.bool false)], args := [d1, d2, d3, d4] }
  | _ => none }
def PolyOnceWrongFalsely : Prop := polyOnceRow.holds Try.pinned (OpenSpec.ofChange polyOnceWrong)

/- THE SECOND FORM. 'bulk': how many values and letters a reading holds, each counted each time it is reached (what is shared counts as often as it is met; a slice's spare places count too). A statement '..UptoSaid' is the law's where the arguments, and the package variables that the reading takes, are together of bulk at most 1048576: NARROWER than '..Said'. Prove '..Said' where nothing that the law and all that it calls make is longer than what came in: it says more and counts as full. Else prove '..UptoSaid'. A law counts once. -/
mutual
def uptoBulk {H : Type} : DataW H → Nat
  | .lit (.string bytes) => bytes.length + 1
  | .lit _ => 1
  | .nil => 1
  | .ptr d => uptoBulk d + 1
  | .slice elems spare => uptoBulkAll elems + uptoBulkAll spare + 1
  | .agg parts => uptoBulkAll parts + 1
  | .iface _ d => uptoBulk d + 1
  | .map entries => uptoBulkEntries entries + 1
  | .held _ => 1
def uptoBulkAll {H : Type} : List (DataW H) → Nat
  | [] => 0
  | d :: r => uptoBulk d + uptoBulkAll r
def uptoBulkEntries {H : Type} : List (Lit × DataW H) → Nat
  | [] => 0
  | x :: r => uptoBulkEntry x + uptoBulkEntries r
def uptoBulkEntry {H : Type} : Lit × DataW H → Nat
  | (.string bytes, d) => bytes.length + uptoBulk d + 1
  | (_, d) => uptoBulk d + 1
 end
def uptoSmall : (H : Type) → List (DataW H) → Bool := fun _ ds => decide (uptoBulkAll ds ≤ 1048576)
def OpenSpec.upto (s : _root_.Go.ChangeSpec) : _root_.Go.OpenSpec := { _root_.Go.OpenSpec.ofChange s with cond := some uptoSmall }

/-- 'carcanetlaw07.PolyNothing', WHERE WHAT IT READS IS OF BULK AT MOST 1048576: true; the input reads as it did. -/
def polyNothingUptoRow : OpenClaim := { program := "ytlheepcojeaeaaa", sum := "de33a5ab4a350964ab43e72969c535efe2fb5ddba9b3f52f4f7b9202dd892fb4", func := "carcanet/carcanetlaw07.PolyNothing", spec := "polyNothing", apart := false, narrowed := true }
def PolyNothingUptoSaid : Prop := polyNothingUptoRow.holds Try.pinned (OpenSpec.upto polyNothingSpec)

/-- 'carcanetlaw07.PolyTags', WHERE WHAT IT READS IS OF BULK AT MOST 1048576: true; the input reads as it did. -/
def polyTagsUptoRow : OpenClaim := { program := "ytlheepcojeaeaaa", sum := "de33a5ab4a350964ab43e72969c535efe2fb5ddba9b3f52f4f7b9202dd892fb4", func := "carcanet/carcanetlaw07.PolyTags", spec := "polyTags", apart := false, narrowed := true }
def PolyTagsUptoSaid : Prop := polyTagsUptoRow.holds Try.pinned (OpenSpec.upto polyTagsSpec)

/-- 'carcanetlaw07.PolyOnce', WHERE WHAT IT READS IS OF BULK AT MOST 1048576: true; the input reads as it did. -/
def polyOnceUptoRow : OpenClaim := { program := "ytlheepcojeaeaaa", sum := "de33a5ab4a350964ab43e72969c535efe2fb5ddba9b3f52f4f7b9202dd892fb4", func := "carcanet/carcanetlaw07.PolyOnce", spec := "polyOnce", apart := false, narrowed := true }
def PolyOnceUptoSaid : Prop := polyOnceUptoRow.holds Try.pinned (OpenSpec.upto polyOnceSpec)

end Rows
end Go.Proofs.Ytlheepcojeaeaaa
