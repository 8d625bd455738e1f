/-
  No cell of these rows narrows 'for every input' (looked for: loops, veiled, ifaces, maps, wideKeys, modest, calm, conditions, laid).
  DERIVED. THE GIVEN ROWS OF THIS SEAT. 3 by the template 'for every input the law returns true; each argument reads behind the call as it read before'; 0 by the template 'total and deterministic' (their statements: YtmbakknpnilooaaTotals.lean).
  GIVEN WITH THE SEED: the statements are not yours to turn. If you find one false, say at which input.
  Laid BY PROGRAM, IN A SANDBOX (cutbox-rows.mjs): the forced cells as the released guide's own fill.sh prints them over the translation 675d239a01ab5e3f… (all of the seat's roots in one cut). By AI agents, Wed Nov 11 2026. No macro, syntax, notation, axiom, sorry.
-/
import Derived.Test.YtmbakknpnilooaaChecked
import GoSem.Claim
import GoSem.ClaimJoined
import GoSem.ClaimMapViews
import Derived.JoinedTies
import Derived.KernelRfl
namespace Go.Proofs.Ytmbakknpnilooaa
/- THE CELL 'sum', in the pinned program and in every row, IS THE sha256 OF THE DUMP (.gsa) THAT YtmbakknpnilooaaProg.lean LOADS. Nothing in Lean hashes anything: it is a label: what it is worth is what the hold of that sum in a sandbox is worth. -/
noncomputable def Try.pinned : Pinned := { name := "ytmbakknpnilooaa", sum := "675d239a01ab5e3f18a1c44ec8f172ba22f92da91faf267467eb3e59dca717b0", checked := Try.checked }
namespace Rows
def none {H : Type} : Left H := { results := [], args := [] }

/-- 'carcanetlaw28.PendsMoves': WHATEVER THE INPUT: true; the input reads as it did. -/
def pendsMovesSpec : ChangeSpec := { name := "pendsMoves", fn := fun _ => fun
  | [d1, d2, d3, d4] => { results := [.lit (.bool true)], args := [d1, d2, d3, d4] }
  | _ => none }
def pendsMovesRow : OpenClaim := { program := "ytmbakknpnilooaa", sum := "675d239a01ab5e3f18a1c44ec8f172ba22f92da91faf267467eb3e59dca717b0", func := "carcanet/carcanetlaw28.PendsMoves", spec := "pendsMoves", unfollowed := true, recurses := true, apart := false }
def PendsMovesSaid : Prop := pendsMovesRow.holds Try.pinned (OpenSpec.ofChange pendsMovesSpec)

/-- ITS FALSE NEIGHBOUR: 'it returns false'. Refute it at one input. -/
def pendsMovesWrong : ChangeSpec := { name := "pendsMoves", fn := fun _ => fun
  | [d1, d2, d3, d4] => { results := [.lit (.bool false)], args := [d1, d2, d3, d4] }
  | _ => none }
def PendsMovesWrongFalsely : Prop := pendsMovesRow.holds Try.pinned (OpenSpec.ofChange pendsMovesWrong)

/-- 'carcanetlaw28.PendsLate': WHATEVER THE INPUT: true; the input reads as it did. -/
def pendsLateSpec : ChangeSpec := { name := "pendsLate", fn := fun _ => fun
  | [d1, d2] => { results := [.lit (.bool true)], args := [d1, d2] }
  | _ => none }
def pendsLateRow : OpenClaim := { program := "ytmbakknpnilooaa", sum := "675d239a01ab5e3f18a1c44ec8f172ba22f92da91faf267467eb3e59dca717b0", func := "carcanet/carcanetlaw28.PendsLate", spec := "pendsLate", unfollowed := true, recurses := true, apart := false }
def PendsLateSaid : Prop := pendsLateRow.holds Try.pinned (OpenSpec.ofChange pendsLateSpec)

/-- ITS FALSE NEIGHBOUR: 'it returns false'. Refute it at one input. -/
def pendsLateWrong : ChangeSpec := { name := "pendsLate", fn := fun _ => fun
  | [d1, d2] => { results := [.lit (.bool false)], args := [d1, d2] }
  | _ => none }
def PendsLateWrongFalsely : Prop := pendsLateRow.holds Try.pinned (OpenSpec.ofChange pendsLateWrong)

/-- 'carcanetlaw28.PendsFinds': WHATEVER THE INPUT: true; the input reads as it did. -/
def pendsFindsSpec : ChangeSpec := { name := "pendsFinds", fn := fun _ => fun
  | [d1, d2, d3, d4, d5, d6] => { results := [.lit (.bool true)], args := [d1, d2, d3, d4, d5, d6] }
  | _ => none }
def pendsFindsRow : OpenClaim := { program := "ytmbakknpnilooaa", sum := "675d239a01ab5e3f18a1c44ec8f172ba22f92da91faf267467eb3e59dca717b0", func := "carcanet/carcanetlaw28.PendsFinds", spec := "pendsFinds", unfollowed := true, recurses := true, apart := false }
def PendsFindsSaid : Prop := pendsFindsRow.holds Try.pinned (OpenSpec.ofChange pendsFindsSpec)

/-- ITS FALSE NEIGHBOUR: 'it returns false'. Refute it at one input. -/
def pendsFindsWrong : ChangeSpec := { name := "pendsFinds", fn := fun _ => fun
  | [d1, d2, d3, d4, d5, d6] => { results := [.lit (.bool false)], args := [d1, d2, d3, d4, d5, d6] }
  | _ => none }
def PendsFindsWrongFalsely : Prop := pendsFindsRow.holds Try.pinned (OpenSpec.ofChange pendsFindsWrong)

/- THE SECOND FORM. 'bulk': how many values and letters a reading holds, each counted each time it is reached (what is shared counts as often as it is met; a slice's spare places count too). A statement '..UptoSaid' is the law's where the arguments, and the package variables that the reading takes, are together of bulk at most 1048576: NARROWER than '..Said'. Prove '..Said' where nothing that the law and all that it calls make is longer than what came in: it says more and counts as full. Else prove '..UptoSaid'. A law counts once. -/
mutual
def uptoBulk {H : Type} : DataW H → Nat
  | .lit (.string bytes) => bytes.length + 1
  | .lit _ => 1
  | .nil => 1
  | .ptr d => uptoBulk d + 1
  | .slice elems spare => uptoBulkAll elems + uptoBulkAll spare + 1
  | .agg parts => uptoBulkAll parts + 1
  | .iface _ d => uptoBulk d + 1
  | .map entries => uptoBulkEntries entries + 1
  | .held _ => 1
def uptoBulkAll {H : Type} : List (DataW H) → Nat
  | [] => 0
  | d :: r => uptoBulk d + uptoBulkAll r
def uptoBulkEntries {H : Type} : List (Lit × DataW H) → Nat
  | [] => 0
  | x :: r => uptoBulkEntry x + uptoBulkEntries r
def uptoBulkEntry {H : Type} : Lit × DataW H → Nat
  | (.string bytes, d) => bytes.length + uptoBulk d + 1
  | (_, d) => uptoBulk d + 1
 end
def uptoSmall : (H : Type) → List (DataW H) → Bool := fun _ ds => decide (uptoBulkAll ds ≤ 1048576)
def OpenSpec.upto (s : _root_.Go.ChangeSpec) : _root_.Go.OpenSpec := { _root_.Go.OpenSpec.ofChange s with cond := some uptoSmall }

/-- 'carcanetlaw28.PendsMoves', WHERE WHAT IT READS IS OF BULK AT MOST 1048576: true; the input reads as it did. -/
def pendsMovesUptoRow : OpenClaim := { program := "ytmbakknpnilooaa", sum := "675d239a01ab5e3f18a1c44ec8f172ba22f92da91faf267467eb3e59dca717b0", func := "carcanet/carcanetlaw28.PendsMoves", spec := "pendsMoves", unfollowed := true, recurses := true, apart := false, narrowed := true }
def PendsMovesUptoSaid : Prop := pendsMovesUptoRow.holds Try.pinned (OpenSpec.upto pendsMovesSpec)

/-- 'carcanetlaw28.PendsLate', WHERE WHAT IT READS IS OF BULK AT MOST 1048576: true; the input reads as it did. -/
def pendsLateUptoRow : OpenClaim := { program := "ytmbakknpnilooaa", sum := "675d239a01ab5e3f18a1c44ec8f172ba22f92da91faf267467eb3e59dca717b0", func := "carcanet/carcanetlaw28.PendsLate", spec := "pendsLate", unfollowed := true, recurses := true, apart := false, narrowed := true }
def PendsLateUptoSaid : Prop := pendsLateUptoRow.holds Try.pinned (OpenSpec.upto pendsLateSpec)

/-- 'carcanetlaw28.PendsFinds', WHERE WHAT IT READS IS OF BULK AT MOST 1048576: true; the input reads as it did. -/
def pendsFindsUptoRow : OpenClaim := { program := "ytmbakknpnilooaa", sum := "675d239a01ab5e3f18a1c44ec8f172ba22f92da91faf267467eb3e59dca717b0", func := "carcanet/carcanetlaw28.PendsFinds", spec := "pendsFinds", unfollowed := true, recurses := true, apart := false, narrowed := true }
def PendsFindsUptoSaid : Prop := pendsFindsUptoRow.holds Try.pinned (OpenSpec.upto pendsFindsSpec)

end Rows
end Go.Proofs.Ytmbakknpnilooaa
