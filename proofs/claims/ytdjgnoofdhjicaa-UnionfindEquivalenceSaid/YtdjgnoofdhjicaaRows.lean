/-
  No cell of these rows narrows 'for every input' (looked for: loops, veiled, ifaces, maps, wideKeys, modest, calm, conditions, laid).
  DERIVED. THE GIVEN ROWS OF THIS SEAT. 5 by the template 'for every input the law returns true; each argument reads behind the call as it read before'; 0 by the template 'total and deterministic' (their statements: YtdjgnoofdhjicaaTotals.lean).
  GIVEN WITH THE SEED: the statements are not yours to turn. If you find one false, say at which input.
  Laid BY PROGRAM, IN A SANDBOX (cutbox-rows.mjs): the forced cells as the released guide's own fill.sh prints them over the translation f99f217dfaec1ed8… (all of the seat's roots in one cut). By AI agents, Wed Nov 11 2026. No macro, syntax, notation, axiom, sorry.
-/
import Derived.Test.YtdjgnoofdhjicaaChecked
import GoSem.Claim
import GoSem.ClaimJoined
import GoSem.ClaimMapViews
import Derived.JoinedTies
import Derived.KernelRfl
namespace Go.Proofs.Ytdjgnoofdhjicaa
/- THE CELL 'sum', in the pinned program and in every row, IS THE sha256 OF THE DUMP (.gsa) THAT YtdjgnoofdhjicaaProg.lean LOADS. Nothing in Lean hashes anything: it is a label: what it is worth is what the hold of that sum in a sandbox is worth. -/
noncomputable def Try.pinned : Pinned := { name := "ytdjgnoofdhjicaa", sum := "f99f217dfaec1ed80f89185e6ead8d028a08a24089f90ebcae01a461ef4622ae", checked := Try.checked }
namespace Rows
def none {H : Type} : Left H := { results := [], args := [] }

/-- 'saturatelaw15.UnionfindActs': WHATEVER THE INPUT: true; the input reads as it did. -/
def unionfindActsSpec : ChangeSpec := { name := "unionfindActs", fn := fun _ => fun
  | [d] => { results := [.lit (.bool true)], args := [d] }
  | _ => none }
def unionfindActsRow : OpenClaim := { program := "ytdjgnoofdhjicaa", sum := "f99f217dfaec1ed80f89185e6ead8d028a08a24089f90ebcae01a461ef4622ae", func := "saturate/saturatelaw15.UnionfindActs", spec := "unionfindActs", unfollowed := true, recurses := true, apart := false }
def UnionfindActsSaid : Prop := unionfindActsRow.holds Try.pinned (OpenSpec.ofChange unionfindActsSpec)

/-- ITS FALSE NEIGHBOUR: 'it returns false'. Refute it at one input. -/
def unionfindActsWrong : ChangeSpec := { name := "unionfindActs", fn := fun _ => fun
  | [d] => { results := [.lit (.bool false)], args := [d] }
  | _ => none }
def UnionfindActsWrongFalsely : Prop := unionfindActsRow.holds Try.pinned (OpenSpec.ofChange unionfindActsWrong)

/-- 'saturatelaw15.UnionfindEquivalence': WHATEVER THE INPUT: true; the input reads as it did. -/
def unionfindEquivalenceSpec : ChangeSpec := { name := "unionfindEquivalence", fn := fun _ => fun
  | [d1, d2] => { results := [.lit (.bool true)], args := [d1, d2] }
  | _ => none }
def unionfindEquivalenceRow : OpenClaim := { program := "ytdjgnoofdhjicaa", sum := "f99f217dfaec1ed80f89185e6ead8d028a08a24089f90ebcae01a461ef4622ae", func := "saturate/saturatelaw15.UnionfindEquivalence", spec := "unionfindEquivalence", unfollowed := true, recurses := true, apart := false }
def UnionfindEquivalenceSaid : Prop := unionfindEquivalenceRow.holds Try.pinned (OpenSpec.ofChange unionfindEquivalenceSpec)

/-- ITS FALSE NEIGHBOUR: 'it returns false'. Refute it at one input. -/
def unionfindEquivalenceWrong : ChangeSpec := { name := "unionfindEquivalence", fn := fun _ => fun
  | [d1, d2] => { results := [.lit (.bool false)], args := [d1, d2] }
  | _ => none }
def UnionfindEquivalenceWrongFalsely : Prop := unionfindEquivalenceRow.holds Try.pinned (OpenSpec.ofChange unionfindEquivalenceWrong)

/-- 'saturatelaw15.UnionfindSets': WHATEVER THE INPUT: true; the input reads as it did. -/
def unionfindSetsSpec : ChangeSpec := { name := "unionfindSets", fn := fun _ => fun
  | [d] => { results := [.lit (.bool true)], args := [d] }
  | _ => none }
def unionfindSetsRow : OpenClaim := { program := "ytdjgnoofdhjicaa", sum := "f99f217dfaec1ed80f89185e6ead8d028a08a24089f90ebcae01a461ef4622ae", func := "saturate/saturatelaw15.UnionfindSets", spec := "unionfindSets", unfollowed := true, recurses := true, apart := false }
def UnionfindSetsSaid : Prop := unionfindSetsRow.holds Try.pinned (OpenSpec.ofChange unionfindSetsSpec)

/-- ITS FALSE NEIGHBOUR: 'it returns false'. Refute it at one input. -/
def unionfindSetsWrong : ChangeSpec := { name := "unionfindSets", fn := fun _ => fun
  | [d] => { results := [.lit (.bool false)], args := [d] }
  | _ => none }
def UnionfindSetsWrongFalsely : Prop := unionfindSetsRow.holds Try.pinned (OpenSpec.ofChange unionfindSetsWrong)

/-- 'saturatelaw15.UnionfindUndo': WHATEVER THE INPUT: true; the input reads as it did. -/
def unionfindUndoSpec : ChangeSpec := { name := "unionfindUndo", fn := fun _ => fun
  | [d1, d2] => { results := [.lit (.bool true)], args := [d1, d2] }
  | _ => none }
def unionfindUndoRow : OpenClaim := { program := "ytdjgnoofdhjicaa", sum := "f99f217dfaec1ed80f89185e6ead8d028a08a24089f90ebcae01a461ef4622ae", func := "saturate/saturatelaw15.UnionfindUndo", spec := "unionfindUndo", unfollowed := true, recurses := true, apart := false }
def UnionfindUndoSaid : Prop := unionfindUndoRow.holds Try.pinned (OpenSpec.ofChange unionfindUndoSpec)

/-- ITS FALSE NEIGHBOUR: 'it returns false'. Refute it at one input. -/
def unionfindUndoWrong : ChangeSpec := { name := "unionfindUndo", fn := fun _ => fun
  | [d1, d2] => { results := [.lit (.bool false)], args := [d1, d2] }
  | _ => none }
def UnionfindUndoWrongFalsely : Prop := unionfindUndoRow.holds Try.pinned (OpenSpec.ofChange unionfindUndoWrong)

/-- 'saturatelaw15.UnionfindNil': WHATEVER THE INPUT: true; the input reads as it did. -/
def unionfindNilSpec : ChangeSpec := { name := "unionfindNil", fn := fun _ => fun
  | [d1, d2] => { results := [.lit (.bool true)], args := [d1, d2] }
  | _ => none }
def unionfindNilRow : OpenClaim := { program := "ytdjgnoofdhjicaa", sum := "f99f217dfaec1ed80f89185e6ead8d028a08a24089f90ebcae01a461ef4622ae", func := "saturate/saturatelaw15.UnionfindNil", spec := "unionfindNil", unfollowed := true, recurses := true, apart := false }
def UnionfindNilSaid : Prop := unionfindNilRow.holds Try.pinned (OpenSpec.ofChange unionfindNilSpec)

/-- ITS FALSE NEIGHBOUR: 'it returns false'. Refute it at one input. -/
def unionfindNilWrong : ChangeSpec := { name := "unionfindNil", fn := fun _ => fun
  | [d1, d2] => { results := [.lit (.bool false)], args := [d1, d2] }
  | _ => none }
def UnionfindNilWrongFalsely : Prop := unionfindNilRow.holds Try.pinned (OpenSpec.ofChange unionfindNilWrong)

/- THE SECOND FORM. 'bulk': how many values and letters a reading holds, each counted each time it is reached (what is shared counts as often as it is met; a slice's spare places count too). A statement '..UptoSaid' is the law's where the arguments, and the package variables that the reading takes, are together of bulk at most 1048576: NARROWER than '..Said'. Prove '..Said' where nothing that the law and all that it calls make is longer than what came in: it says more and counts as full. Else prove '..UptoSaid'. A law counts once. -/
mutual
def uptoBulk {H : Type} : DataW H → Nat
  | .lit (.string bytes) => bytes.length + 1
  | .lit _ => 1
  | .nil => 1
  | .ptr d => uptoBulk d + 1
  | .slice elems spare => uptoBulkAll elems + uptoBulkAll spare + 1
  | .agg parts => uptoBulkAll parts + 1
  | .iface _ d => uptoBulk d + 1
  | .map entries => uptoBulkEntries entries + 1
  | .held _ => 1
def uptoBulkAll {H : Type} : List (DataW H) → Nat
  | [] => 0
  | d :: r => uptoBulk d + uptoBulkAll r
def uptoBulkEntries {H : Type} : List (Lit × DataW H) → Nat
  | [] => 0
  | x :: r => uptoBulkEntry x + uptoBulkEntries r
def uptoBulkEntry {H : Type} : Lit × DataW H → Nat
  | (.string bytes, d) => bytes.length + uptoBulk d + 1
  | (_, d) => uptoBulk d + 1
 end
def uptoSmall : (H : Type) → List (DataW H) → Bool := fun _ ds => decide (uptoBulkAll ds ≤ 1048576)
def OpenSpec.upto (s : _root_.Go.ChangeSpec) : _root_.Go.OpenSpec := { _root_.Go.OpenSpec.ofChange s with cond := some uptoSmall }

/-- 'saturatelaw15.UnionfindActs', WHERE WHAT IT READS IS OF BULK AT MOST 1048576: true; the input reads as it did. -/
def unionfindActsUptoRow : OpenClaim := { program := "ytdjgnoofdhjicaa", sum := "f99f217dfaec1ed80f89185e6ead8d028a08a24089f90ebcae01a461ef4622ae", func := "saturate/saturatelaw15.UnionfindActs", spec := "unionfindActs", unfollowed := true, recurses := true, apart := false, narrowed := true }
def UnionfindActsUptoSaid : Prop := unionfindActsUptoRow.holds Try.pinned (OpenSpec.upto unionfindActsSpec)

/-- 'saturatelaw15.UnionfindEquivalence', WHERE WHAT IT READS IS OF BULK AT MOST 1048576: true; the input reads as it did. -/
def unionfindEquivalenceUptoRow : OpenClaim := { program := "ytdjgnoofdhjicaa", sum := "f99f217dfaec1ed80f89185e6ead8d028a08a24089f90ebcae01a461ef4622ae", func := "saturate/saturatelaw15.UnionfindEquivalence", spec := "unionfindEquivalence", unfollowed := true, recurses := true, apart := false, narrowed := true }
def UnionfindEquivalenceUptoSaid : Prop := unionfindEquivalenceUptoRow.holds Try.pinned (OpenSpec.upto unionfindEquivalenceSpec)

/-- 'saturatelaw15.UnionfindSets', WHERE WHAT IT READS IS OF BULK AT MOST 1048576: true; the input reads as it did. -/
def unionfindSetsUptoRow : OpenClaim := { program := "ytdjgnoofdhjicaa", sum := "f99f217dfaec1ed80f89185e6ead8d028a08a24089f90ebcae01a461ef4622ae", func := "saturate/saturatelaw15.UnionfindSets", spec := "unionfindSets", unfollowed := true, recurses := true, apart := false, narrowed := true }
def UnionfindSetsUptoSaid : Prop := unionfindSetsUptoRow.holds Try.pinned (OpenSpec.upto unionfindSetsSpec)

/-- 'saturatelaw15.UnionfindUndo', WHERE WHAT IT READS IS OF BULK AT MOST 1048576: true; the input reads as it did. -/
def unionfindUndoUptoRow : OpenClaim := { program := "ytdjgnoofdhjicaa", sum := "f99f217dfaec1ed80f89185e6ead8d028a08a24089f90ebcae01a461ef4622ae", func := "saturate/saturatelaw15.UnionfindUndo", spec := "unionfindUndo", unfollowed := true, recurses := true, apart := false, narrowed := true }
def UnionfindUndoUptoSaid : Prop := unionfindUndoUptoRow.holds Try.pinned (OpenSpec.upto unionfindUndoSpec)

/-- 'saturatelaw15.UnionfindNil', WHERE WHAT IT READS IS OF BULK AT MOST 1048576: true; the input reads as it did. -/
def unionfindNilUptoRow : OpenClaim := { program := "ytdjgnoofdhjicaa", sum := "f99f217dfaec1ed80f89185e6ead8d028a08a24089f90ebcae01a461ef4622ae", func := "saturate/saturatelaw15.UnionfindNil", spec := "unionfindNil", unfollowed := true, recurses := true, apart := false, narrowed := true }
def UnionfindNilUptoSaid : Prop := unionfindNilUptoRow.holds Try.pinned (OpenSpec.upto unionfindNilSpec)

end Rows
end Go.Proofs.Ytdjgnoofdhjicaa
