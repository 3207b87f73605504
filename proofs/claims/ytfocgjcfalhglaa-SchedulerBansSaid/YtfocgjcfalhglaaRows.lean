/-
  No cell of these rows narrows 'for every input' (looked for: loops, veiled, ifaces, maps, wideKeys, modest, calm, conditions, laid).
  DERIVED. THE GIVEN ROWS OF THIS SEAT. 5 by the template 'for every input the law returns true; each argument reads behind the call as it read before'; 0 by the template 'total and deterministic' (their statements: YtfocgjcfalhglaaTotals.lean).
  GIVEN WITH THE SEED: the statements are not yours to turn. If you find one false, say at which input.
  Laid BY PROGRAM, IN A SANDBOX (cutbox-rows.mjs): the forced cells as the released guide's own fill.sh prints them over the translation 4fdd9cb79d1561ce… (all of the seat's roots in one cut). By AI agents, Wed Nov 11 2026. No macro, syntax, notation, axiom, sorry.
-/
import Derived.Test.YtfocgjcfalhglaaChecked
import GoSem.Claim
import GoSem.ClaimJoined
import GoSem.ClaimMapViews
import Derived.JoinedTies
import Derived.KernelRfl
namespace Go.Proofs.Ytfocgjcfalhglaa
/- THE CELL 'sum', in the pinned program and in every row, IS THE sha256 OF THE DUMP (.gsa) THAT YtfocgjcfalhglaaProg.lean LOADS. Nothing in Lean hashes anything: it is a label: what it is worth is what the hold of that sum in a sandbox is worth. -/
noncomputable def Try.pinned : Pinned := { name := "ytfocgjcfalhglaa", sum := "4fdd9cb79d1561ce8a372a22178e23a3963f4facac5740649c0a4be51f7104bb", checked := Try.checked }
namespace Rows
def none {H : Type} : Left H := { results := [], args := [] }

/-- 'saturatelaw32.SchedulerStates': WHATEVER THE INPUT: true; the input reads as it did. -/
def schedulerStatesSpec : ChangeSpec := { name := "schedulerStates", fn := fun _ => fun
  | [d1, d2, d3, d4, d5] => { results := [.lit (.bool true)], args := [d1, d2, d3, d4, d5] }
  | _ => none }
def schedulerStatesRow : OpenClaim := { program := "ytfocgjcfalhglaa", sum := "4fdd9cb79d1561ce8a372a22178e23a3963f4facac5740649c0a4be51f7104bb", func := "saturate/saturatelaw32.SchedulerStates", spec := "schedulerStates", apart := false }
def SchedulerStatesSaid : Prop := schedulerStatesRow.holds Try.pinned (OpenSpec.ofChange schedulerStatesSpec)

/-- ITS FALSE NEIGHBOUR: 'it returns false'. Refute it at one input. -/
def schedulerStatesWrong : ChangeSpec := { name := "schedulerStates", fn := fun _ => fun
  | [d1, d2, d3, d4, d5] => { results := [.lit (.bool false)], args := [d1, d2, d3, d4, d5] }
  | _ => none }
def SchedulerStatesWrongFalsely : Prop := schedulerStatesRow.holds Try.pinned (OpenSpec.ofChange schedulerStatesWrong)

/-- 'saturatelaw32.SchedulerTakes': WHATEVER THE INPUT: true; the input reads as it did. -/
def schedulerTakesSpec : ChangeSpec := { name := "schedulerTakes", fn := fun _ => fun
  | [d1, d2, d3] => { results := [.lit (.bool true)], args := [d1, d2, d3] }
  | _ => none }
def schedulerTakesRow : OpenClaim := { program := "ytfocgjcfalhglaa", sum := "4fdd9cb79d1561ce8a372a22178e23a3963f4facac5740649c0a4be51f7104bb", func := "saturate/saturatelaw32.SchedulerTakes", spec := "schedulerTakes", apart := false }
def SchedulerTakesSaid : Prop := schedulerTakesRow.holds Try.pinned (OpenSpec.ofChange schedulerTakesSpec)

/-- ITS FALSE NEIGHBOUR: 'it returns false'. Refute it at one input. -/
def schedulerTakesWrong : ChangeSpec := { name := "schedulerTakes", fn := fun _ => fun
  | [d1, d2, d3] => { results := [.lit (.bool false)], args := [d1, d2, d3] }
  | _ => none }
def SchedulerTakesWrongFalsely : Prop := schedulerTakesRow.holds Try.pinned (OpenSpec.ofChange schedulerTakesWrong)

/-- 'saturatelaw32.SchedulerBans': WHATEVER THE INPUT: true; the input reads as it did. -/
def schedulerBansSpec : ChangeSpec := { name := "schedulerBans", fn := fun _ => fun
  | [d1, d2, d3] => { results := [.lit (.bool true)], args := [d1, d2, d3] }
  | _ => none }
def schedulerBansRow : OpenClaim := { program := "ytfocgjcfalhglaa", sum := "4fdd9cb79d1561ce8a372a22178e23a3963f4facac5740649c0a4be51f7104bb", func := "saturate/saturatelaw32.SchedulerBans", spec := "schedulerBans", apart := false }
def SchedulerBansSaid : Prop := schedulerBansRow.holds Try.pinned (OpenSpec.ofChange schedulerBansSpec)

/-- ITS FALSE NEIGHBOUR: 'it returns false'. Refute it at one input. -/
def schedulerBansWrong : ChangeSpec := { name := "schedulerBans", fn := fun _ => fun
  | [d1, d2, d3] => { results := [.lit (.bool false)], args := [d1, d2, d3] }
  | _ => none }
def SchedulerBansWrongFalsely : Prop := schedulerBansRow.holds Try.pinned (OpenSpec.ofChange schedulerBansWrong)

/-- 'saturatelaw32.SchedulerSimulates': WHATEVER THE INPUT: true; the input reads as it did. -/
def schedulerSimulatesSpec : ChangeSpec := { name := "schedulerSimulates", fn := fun _ => fun
  | [d1, d2] => { results := [.lit (.bool true)], args := [d1, d2] }
  | _ => none }
def schedulerSimulatesRow : OpenClaim := { program := "ytfocgjcfalhglaa", sum := "4fdd9cb79d1561ce8a372a22178e23a3963f4facac5740649c0a4be51f7104bb", func := "saturate/saturatelaw32.SchedulerSimulates", spec := "schedulerSimulates", apart := false }
def SchedulerSimulatesSaid : Prop := schedulerSimulatesRow.holds Try.pinned (OpenSpec.ofChange schedulerSimulatesSpec)

/-- ITS FALSE NEIGHBOUR: 'it returns false'. Refute it at one input. -/
def schedulerSimulatesWrong : ChangeSpec := { name := "schedulerSimulates", fn := fun _ => fun
  | [d1, d2] => { results := [.lit (.bool false)], args := [d1, d2] }
  | _ => none }
def SchedulerSimulatesWrongFalsely : Prop := schedulerSimulatesRow.holds Try.pinned (OpenSpec.ofChange schedulerSimulatesWrong)

/-- 'saturatelaw32.SchedulerNever': WHATEVER THE INPUT: true; the input reads as it did. -/
def schedulerNeverSpec : ChangeSpec := { name := "schedulerNever", fn := fun _ => fun
  | [d1, d2, d3] => { results := [.lit (.bool true)], args := [d1, d2, d3] }
  | _ => none }
def schedulerNeverRow : OpenClaim := { program := "ytfocgjcfalhglaa", sum := "4fdd9cb79d1561ce8a372a22178e23a3963f4facac5740649c0a4be51f7104bb", func := "saturate/saturatelaw32.SchedulerNever", spec := "schedulerNever", apart := false }
def SchedulerNeverSaid : Prop := schedulerNeverRow.holds Try.pinned (OpenSpec.ofChange schedulerNeverSpec)

/-- ITS FALSE NEIGHBOUR: 'it returns false'. Refute it at one input. -/
def schedulerNeverWrong : ChangeSpec := { name := "schedulerNever", fn := fun _ => fun
  | [d1, d2, d3] => { results := [.lit (.bool false)], args := [d1, d2, d3] }
  | _ => none }
def SchedulerNeverWrongFalsely : Prop := schedulerNeverRow.holds Try.pinned (OpenSpec.ofChange schedulerNeverWrong)

/- THE SECOND FORM. 'bulk': how many values and letters a reading holds, each counted each time it is reached (what is shared counts as often as it is met; a slice's spare places count too). A statement '..UptoSaid' is the law's where the arguments, and the package variables that the reading takes, are together of bulk at most 1048576: NARROWER than '..Said'. Prove '..Said' where nothing that the law and all that it calls make is longer than what came in: it says more and counts as full. Else prove '..UptoSaid'. A law counts once. -/
mutual
def uptoBulk {H : Type} : DataW H → Nat
  | .lit (.string bytes) => bytes.length + 1
  | .lit _ => 1
  | .nil => 1
  | .ptr d => uptoBulk d + 1
  | .slice elems spare => uptoBulkAll elems + uptoBulkAll spare + 1
  | .agg parts => uptoBulkAll parts + 1
  | .iface _ d => uptoBulk d + 1
  | .map entries => uptoBulkEntries entries + 1
  | .held _ => 1
def uptoBulkAll {H : Type} : List (DataW H) → Nat
  | [] => 0
  | d :: r => uptoBulk d + uptoBulkAll r
def uptoBulkEntries {H : Type} : List (Lit × DataW H) → Nat
  | [] => 0
  | x :: r => uptoBulkEntry x + uptoBulkEntries r
def uptoBulkEntry {H : Type} : Lit × DataW H → Nat
  | (.string bytes, d) => bytes.length + uptoBulk d + 1
  | (_, d) => uptoBulk d + 1
 end
def uptoSmall : (H : Type) → List (DataW H) → Bool := fun _ ds => decide (uptoBulkAll ds ≤ 1048576)
def OpenSpec.upto (s : _root_.Go.ChangeSpec) : _root_.Go.OpenSpec := { _root_.Go.OpenSpec.ofChange s with cond := some uptoSmall }

/-- 'saturatelaw32.SchedulerStates', WHERE WHAT IT READS IS OF BULK AT MOST 1048576: true; the input reads as it did. -/
def schedulerStatesUptoRow : OpenClaim := { program := "ytfocgjcfalhglaa", sum := "4fdd9cb79d1561ce8a372a22178e23a3963f4facac5740649c0a4be51f7104bb", func := "saturate/saturatelaw32.SchedulerStates", spec := "schedulerStates", apart := false, narrowed := true }
def SchedulerStatesUptoSaid : Prop := schedulerStatesUptoRow.holds Try.pinned (OpenSpec.upto schedulerStatesSpec)

/-- 'saturatelaw32.SchedulerTakes', WHERE WHAT IT READS IS OF BULK AT MOST 1048576: true; the input reads as it did. -/
def schedulerTakesUptoRow : OpenClaim := { program := "ytfocgjcfalhglaa", sum := "4fdd9cb79d1561ce8a372a22178e23a3963f4facac5740649c0a4be51f7104bb", func := "saturate/saturatelaw32.SchedulerTakes", spec := "schedulerTakes", apart := false, narrowed := true }
def SchedulerTakesUptoSaid : Prop := schedulerTakesUptoRow.holds Try.pinned (OpenSpec.upto schedulerTakesSpec)

/-- 'saturatelaw32.SchedulerBans', WHERE WHAT IT READS IS OF BULK AT MOST 1048576: true; the input reads as it did. -/
def schedulerBansUptoRow : OpenClaim := { program := "ytfocgjcfalhglaa", sum := "4fdd9cb79d1561ce8a372a22178e23a3963f4facac5740649c0a4be51f7104bb", func := "saturate/saturatelaw32.SchedulerBans", spec := "schedulerBans", apart := false, narrowed := true }
def SchedulerBansUptoSaid : Prop := schedulerBansUptoRow.holds Try.pinned (OpenSpec.upto schedulerBansSpec)

/-- 'saturatelaw32.SchedulerSimulates', WHERE WHAT IT READS IS OF BULK AT MOST 1048576: true; the input reads as it did. -/
def schedulerSimulatesUptoRow : OpenClaim := { program := "ytfocgjcfalhglaa", sum := "4fdd9cb79d1561ce8a372a22178e23a3963f4facac5740649c0a4be51f7104bb", func := "saturate/saturatelaw32.SchedulerSimulates", spec := "schedulerSimulates", apart := false, narrowed := true }
def SchedulerSimulatesUptoSaid : Prop := schedulerSimulatesUptoRow.holds Try.pinned (OpenSpec.upto schedulerSimulatesSpec)

/-- 'saturatelaw32.SchedulerNever', WHERE WHAT IT READS IS OF BULK AT MOST 1048576: true; the input reads as it did. -/
def schedulerNeverUptoRow : OpenClaim := { program := "ytfocgjcfalhglaa", sum := "4fdd9cb79d1561ce8a372a22178e23a3963f4facac5740649c0a4be51f7104bb", func := "saturate/saturatelaw32.SchedulerNever", spec := "schedulerNever", apart := false, narrowed := true }
def SchedulerNeverUptoSaid : Prop := schedulerNeverUptoRow.holds Try.pinned (OpenSpec.upto schedulerNeverSpec)

end Rows
end Go.Proofs.Ytfocgjcfalhglaa
