/-
  No cell of these rows narrows 'for every input' (looked for: loops, veiled, ifaces, maps, wideKeys, modest, calm, conditions, laid).
  DERIVED. THE GIVEN ROWS OF THIS SEAT. 5 by the template 'for every input the law returns true; each argument reads behind the call as it read before'; 0 by the template 'total and deterministic' (their statements: YtiigmklolapckaaTotals.lean).
  GIVEN WITH THE SEED: the statements are not yours to turn. If you find one false, say at which input.
  Laid BY PROGRAM, IN A SANDBOX (cutbox-rows.mjs): the forced cells as the released guide's own fill.sh prints them over the translation 070ff6223525c578… (all of the seat's roots in one cut). By AI agents, Wed Nov 11 2026. No macro, syntax, notation, axiom, sorry.
-/
import Derived.Test.YtiigmklolapckaaChecked
import GoSem.Claim
import GoSem.ClaimJoined
import GoSem.ClaimMapViews
import Derived.JoinedTies
import Derived.KernelRfl
namespace Go.Proofs.Ytiigmklolapckaa
/- THE CELL 'sum', in the pinned program and in every row, IS THE sha256 OF THE DUMP (.gsa) THAT YtiigmklolapckaaProg.lean LOADS. Nothing in Lean hashes anything: it is a label: what it is worth is what the hold of that sum in a sandbox is worth. -/
noncomputable def Try.pinned : Pinned := { name := "ytiigmklolapckaa", sum := "070ff6223525c578d91c84644a81e102acb71710fa0dee1257188381c500c964", checked := Try.checked }
namespace Rows
def none {H : Type} : Left H := { results := [], args := [] }

/-- 'saturatelaw41.IlpPropagates': WHATEVER THE INPUT: true; the input reads as it did. -/
def ilpPropagatesSpec : ChangeSpec := { name := "ilpPropagates", fn := fun _ => fun
  | [d1, d2] => { results := [.lit (.bool true)], args := [d1, d2] }
  | _ => none }
def ilpPropagatesRow : OpenClaim := { program := "ytiigmklolapckaa", sum := "070ff6223525c578d91c84644a81e102acb71710fa0dee1257188381c500c964", func := "saturate/saturatelaw41.IlpPropagates", spec := "ilpPropagates", unfollowed := true, recurses := true, apart := false }
def IlpPropagatesSaid : Prop := ilpPropagatesRow.holds Try.pinned (OpenSpec.ofChange ilpPropagatesSpec)

/-- ITS FALSE NEIGHBOUR: 'it returns false'. Refute it at one input. -/
def ilpPropagatesWrong : ChangeSpec := { name := "ilpPropagates", fn := fun _ => fun
  | [d1, d2] => { results := [.lit (.bool false)], args := [d1, d2] }
  | _ => none }
def IlpPropagatesWrongFalsely : Prop := ilpPropagatesRow.holds Try.pinned (OpenSpec.ofChange ilpPropagatesWrong)

/-- 'saturatelaw41.IlpSolves': WHATEVER THE INPUT: true; the input reads as it did. -/
def ilpSolvesSpec : ChangeSpec := { name := "ilpSolves", fn := fun _ => fun
  | [d] => { results := [.lit (.bool true)], args := [d] }
  | _ => none }
def ilpSolvesRow : OpenClaim := { program := "ytiigmklolapckaa", sum := "070ff6223525c578d91c84644a81e102acb71710fa0dee1257188381c500c964", func := "saturate/saturatelaw41.IlpSolves", spec := "ilpSolves", unfollowed := true, recurses := true, apart := false }
def IlpSolvesSaid : Prop := ilpSolvesRow.holds Try.pinned (OpenSpec.ofChange ilpSolvesSpec)

/-- ITS FALSE NEIGHBOUR: 'it returns false'. Refute it at one input. -/
def ilpSolvesWrong : ChangeSpec := { name := "ilpSolves", fn := fun _ => fun
  | [d] => { results := [.lit (.bool false)], args := [d] }
  | _ => none }
def IlpSolvesWrongFalsely : Prop := ilpSolvesRow.holds Try.pinned (OpenSpec.ofChange ilpSolvesWrong)

/-- 'saturatelaw41.IlpLarge': WHATEVER THE INPUT: true; the input reads as it did. -/
def ilpLargeSpec : ChangeSpec := { name := "ilpLarge", fn := fun _ => fun
  | [d] => { results := [.lit (.bool true)], args := [d] }
  | _ => none }
def ilpLargeRow : OpenClaim := { program := "ytiigmklolapckaa", sum := "070ff6223525c578d91c84644a81e102acb71710fa0dee1257188381c500c964", func := "saturate/saturatelaw41.IlpLarge", spec := "ilpLarge", unfollowed := true, recurses := true, apart := false }
def IlpLargeSaid : Prop := ilpLargeRow.holds Try.pinned (OpenSpec.ofChange ilpLargeSpec)

/-- ITS FALSE NEIGHBOUR: 'it returns false'. Refute it at one input. -/
def ilpLargeWrong : ChangeSpec := { name := "ilpLarge", fn := fun _ => fun
  | [d] => { results := [.lit (.bool false)], args := [d] }
  | _ => none }
def IlpLargeWrongFalsely : Prop := ilpLargeRow.holds Try.pinned (OpenSpec.ofChange ilpLargeWrong)

/-- 'saturatelaw41.IlpKeeps': WHATEVER THE INPUT: true; the input reads as it did. -/
def ilpKeepsSpec : ChangeSpec := { name := "ilpKeeps", fn := fun _ => fun
  | [d1, d2] => { results := [.lit (.bool true)], args := [d1, d2] }
  | _ => none }
def ilpKeepsRow : OpenClaim := { program := "ytiigmklolapckaa", sum := "070ff6223525c578d91c84644a81e102acb71710fa0dee1257188381c500c964", func := "saturate/saturatelaw41.IlpKeeps", spec := "ilpKeeps", unfollowed := true, recurses := true, apart := false }
def IlpKeepsSaid : Prop := ilpKeepsRow.holds Try.pinned (OpenSpec.ofChange ilpKeepsSpec)

/-- ITS FALSE NEIGHBOUR: 'it returns false'. Refute it at one input. -/
def ilpKeepsWrong : ChangeSpec := { name := "ilpKeeps", fn := fun _ => fun
  | [d1, d2] => { results := [.lit (.bool false)], args := [d1, d2] }
  | _ => none }
def IlpKeepsWrongFalsely : Prop := ilpKeepsRow.holds Try.pinned (OpenSpec.ofChange ilpKeepsWrong)

/-- 'saturatelaw41.IlpChecks': WHATEVER THE INPUT: true; the input reads as it did. -/
def ilpChecksSpec : ChangeSpec := { name := "ilpChecks", fn := fun _ => fun
  | [d1, d2, d3] => { results := [.lit (.bool true)], args := [d1, d2, d3] }
  | _ => none }
def ilpChecksRow : OpenClaim := { program := "ytiigmklolapckaa", sum := "070ff6223525c578d91c84644a81e102acb71710fa0dee1257188381c500c964", func := "saturate/saturatelaw41.IlpChecks", spec := "ilpChecks", unfollowed := true, recurses := true, apart := false }
def IlpChecksSaid : Prop := ilpChecksRow.holds Try.pinned (OpenSpec.ofChange ilpChecksSpec)

/-- ITS FALSE NEIGHBOUR: 'it returns false'. Refute it at one input. -/
def ilpChecksWrong : ChangeSpec := { name := "ilpChecks", fn := fun _ => fun
  | [d1, d2, d3] => { results := [.lit (.bool false)], args := [d1, d2, d3] }
  | _ => none }
def IlpChecksWrongFalsely : Prop := ilpChecksRow.holds Try.pinned (OpenSpec.ofChange ilpChecksWrong)

/- THE SECOND FORM. 'bulk': how many values and letters a reading holds, each counted each time it is reached (what is shared counts as often as it is met; a slice's spare places count too). A statement '..UptoSaid' is the law's where the arguments, and the package variables that the reading takes, are together of bulk at most 1048576: NARROWER than '..Said'. Prove '..Said' where nothing that the law and all that it calls make is longer than what came in: it says more and counts as full. Else prove '..UptoSaid'. A law counts once. -/
mutual
def uptoBulk {H : Type} : DataW H → Nat
  | .lit (.string bytes) => bytes.length + 1
  | .lit _ => 1
  | .nil => 1
  | .ptr d => uptoBulk d + 1
  | .slice elems spare => uptoBulkAll elems + uptoBulkAll spare + 1
  | .agg parts => uptoBulkAll parts + 1
  | .iface _ d => uptoBulk d + 1
  | .map entries => uptoBulkEntries entries + 1
  | .held _ => 1
def uptoBulkAll {H : Type} : List (DataW H) → Nat
  | [] => 0
  | d :: r => uptoBulk d + uptoBulkAll r
def uptoBulkEntries {H : Type} : List (Lit × DataW H) → Nat
  | [] => 0
  | x :: r => uptoBulkEntry x + uptoBulkEntries r
def uptoBulkEntry {H : Type} : Lit × DataW H → Nat
  | (.string bytes, d) => bytes.length + uptoBulk d + 1
  | (_, d) => uptoBulk d + 1
 end
def uptoSmall : (H : Type) → List (DataW H) → Bool := fun _ ds => decide (uptoBulkAll ds ≤ 1048576)
def OpenSpec.upto (s : _root_.Go.ChangeSpec) : _root_.Go.OpenSpec := { _root_.Go.OpenSpec.ofChange s with cond := some uptoSmall }

/-- 'saturatelaw41.IlpPropagates', WHERE WHAT IT READS IS OF BULK AT MOST 1048576: true; the input reads as it did. -/
def ilpPropagatesUptoRow : OpenClaim := { program := "ytiigmklolapckaa", sum := "070ff6223525c578d91c84644a81e102acb71710fa0dee1257188381c500c964", func := "saturate/saturatelaw41.IlpPropagates", spec := "ilpPropagates", unfollowed := true, recurses := true, apart := false, narrowed := true }
def IlpPropagatesUptoSaid : Prop := ilpPropagatesUptoRow.holds Try.pinned (OpenSpec.upto ilpPropagatesSpec)

/-- 'saturatelaw41.IlpSolves', WHERE WHAT IT READS IS OF BULK AT MOST 1048576: true; the input reads as it did. -/
def ilpSolvesUptoRow : OpenClaim := { program := "ytiigmklolapckaa", sum := "070ff6223525c578d91c84644a81e102acb71710fa0dee1257188381c500c964", func := "saturate/saturatelaw41.IlpSolves", spec := "ilpSolves", unfollowed := true, recurses := true, apart := false, narrowed := true }
def IlpSolvesUptoSaid : Prop := ilpSolvesUptoRow.holds Try.pinned (OpenSpec.upto ilpSolvesSpec)

/-- 'saturatelaw41.IlpLarge', WHERE WHAT IT READS IS OF BULK AT MOST 1048576: true; the input reads as it did. -/
def ilpLargeUptoRow : OpenClaim := { program := "ytiigmklolapckaa", sum := "070ff6223525c578d91c84644a81e102acb71710fa0dee1257188381c500c964", func := "saturate/saturatelaw41.IlpLarge", spec := "ilpLarge", unfollowed := true, recurses := true, apart := false, narrowed := true }
def IlpLargeUptoSaid : Prop := ilpLargeUptoRow.holds Try.pinned (OpenSpec.upto ilpLargeSpec)

/-- 'saturatelaw41.IlpKeeps', WHERE WHAT IT READS IS OF BULK AT MOST 1048576: true; the input reads as it did. -/
def ilpKeepsUptoRow : OpenClaim := { program := "ytiigmklolapckaa", sum := "070ff6223525c578d91c84644a81e102acb71710fa0dee1257188381c500c964", func := "saturate/saturatelaw41.IlpKeeps", spec := "ilpKeeps", unfollowed := true, recurses := true, apart := false, narrowed := true }
def IlpKeepsUptoSaid : Prop := ilpKeepsUptoRow.holds Try.pinned (OpenSpec.upto ilpKeepsSpec)

/-- 'saturatelaw41.IlpChecks', WHERE WHAT IT READS IS OF BULK AT MOST 1048576: true; the input reads as it did. -/
def ilpChecksUptoRow : OpenClaim := { program := "ytiigmklolapckaa", sum := "070ff6223525c578d91c84644a81e102acb71710fa0dee1257188381c500c964", func := "saturate/saturatelaw41.IlpChecks", spec := "ilpChecks", unfollowed := true, recurses := true, apart := false, narrowed := true }
def IlpChecksUptoSaid : Prop := ilpChecksUptoRow.holds Try.pinned (OpenSpec.upto ilpChecksSpec)

end Rows
end Go.Proofs.Ytiigmklolapckaa
