/- The law IlpLarge of the given program: for every input it returns true, and its arguments read afterwards as before. No condition. -/
import Derived.Test.YtiigmklolapckaaRows
import Derived.Test.YtiigmklolapckaaReads
import Derived.Test.YtiigmklolapckaaPlain10
import Derived.WalkKit
import Derived.ProofKit
import Derived.OpenShut
import Derived.ShutString
import Derived.ChangeOld
import Derived.Below
import Derived.SizedLaws
namespace Go.Proofs.Ytiigmklolapckaa.ilpLarge
open Go.ChangeShapes Go.WideShapes Go.ChangeAt Go.RowKit Go.Proofs.YtiigmklolapckaaW.PrintWords
open Go.ChangeMaps (open_string shut_string)
set_option linter.unusedVariables false
theorem own : ownKnob Try.prog.godebug = none := by kernel_rfl
theorem laidOut : laidOutB Try.prog = true := by kernel_rfl
open Go.Proofs.Ytiigmklolapckaa.QAll
section
variable {H : Type} {enc : TypeId × Value → H} {W : World} {base : Nat} {spare : Nat → Bool} {held : Bool}
theorem rdT45 : Reads.Rd enc Try.prog W base spare held 45 k45 (fun _ => True) :=
  Reads.rd_struct2 (fun a b => (⟨a, b⟩ : S45)) Try.underlying45 rfl rfl (by kernel_rfl) (by kernel_rfl) (by kernel_rfl) (Reads.rd_int Try.underlying3) (Reads.rd_int Try.underlying2) (fun _ _ => rfl) (fun _ _ _ _ => trivial)
theorem rdT41 : Reads.Rd enc Try.prog W base spare held 41 (Kd.slice 45 k45) (fun l => l.length ≤ maxLen ∧ ∀ x ∈ l, True) := Reads.rd_slice Try.underlying41 (by kernel_rfl) rdT45
theorem rdT43 : Reads.Rd enc Try.prog W base spare held 43 k43 (fun _ => True) :=
  Reads.rd_struct2 (fun a b => (⟨a, b⟩ : S43)) Try.underlying43 rfl rfl (by kernel_rfl) (by kernel_rfl) (by kernel_rfl) rdT41 (Reads.rd_int Try.underlying2) (fun _ _ => rfl) (fun _ _ _ _ => trivial)
theorem rdT23 : Reads.Rd enc Try.prog W base spare held 23 (Kd.slice 43 k43) (fun l => l.length ≤ maxLen ∧ ∀ x ∈ l, True) := Reads.rd_slice Try.underlying23 (by kernel_rfl) rdT43
theorem rdT22 : Reads.Rd enc Try.prog W base spare held 22 (Kd.slice 2 (Kd.int .i64)) (fun l => l.length ≤ maxLen ∧ ∀ x ∈ l, (Lit.int .i64 x).wf = true) := Reads.rd_slice Try.underlying22 (by kernel_rfl) (Reads.rd_int Try.underlying2)
theorem rdT25 : Reads.Rd enc Try.prog W base spare held 25 k25 (fun _ => True) :=
  Reads.rd_struct2 (fun a b => (⟨a, b⟩ : S25)) Try.underlying25 rfl rfl (by kernel_rfl) (by kernel_rfl) (by kernel_rfl) rdT22 rdT23 (fun _ _ => rfl) (fun _ _ _ _ => trivial)
theorem rdT26 : Reads.Rd enc Try.prog W base spare held 26 (Kd.slice 3 (Kd.int .i64)) (fun l => l.length ≤ maxLen ∧ ∀ x ∈ l, (Lit.int .i64 x).wf = true) := Reads.rd_slice Try.underlying26 (by kernel_rfl) (Reads.rd_int Try.underlying3)
theorem rdT34 : Reads.Rd enc Try.prog W base spare held 34 (Kd.slice 4 Kd.bool) (fun l => l.length ≤ maxLen ∧ ∀ x ∈ l, True) := Reads.rd_slice Try.underlying34 (by kernel_rfl) (Reads.rd_bool Try.underlying4)
theorem rdT40 : Reads.Rd enc Try.prog W base spare held 40 (Kd.slice 25 k25) (fun l => l.length ≤ maxLen ∧ ∀ x ∈ l, True) := Reads.rd_slice Try.underlying40 (by kernel_rfl) rdT25
end
set_option maxRecDepth 100000 in
theorem lifted (os : Os) (started : os.Started) (H : Type) (enc : TypeId × Value → H) :
    ReturnsInHanded {} Try.checked os 5 .any (Rows.ilpLargeSpec.pre6 enc Try.prog Try.f5 Rows.ilpLargeRow.domain false) (Rows.ilpLargeSpec.post enc Try.prog Try.f5 false true false false) := by
  refine returnsInHanded_of_change_sized (C := Try.checked) own started (by kernel_rfl) Try.func5
    (ChangeSpec.witness6 (enc := enc) (C := Try.checked) false ⟨#[], #[.slice none 0 0], []⟩ 8 (by kernel_rfl) (by kernel_rfl) (by kernel_rfl) (by kernel_rfl)) ?_
  intro W base args ds gs before hval0 hW hcnd hsz0 _
  have hval : ∀ (j : Nat) t v, Try.f5.params[j]? = some t → args[j]? = some v → Value.okWide Try.prog W .any base t v := hval0
  have hW' := hW
  obtain ⟨p, q, hA0, hV, rfl, hfz, hnd⟩ := hW
  have hA : DataW.TrodAll enc Try.prog W 0 (fun _ => true) true Try.f5.params.toList args.toList ds p := hA0
  rw [Try.params5] at hA hval
  obtain ⟨v0, vs0, d0, ds0, p0, q0, hargs, rfl, rfl, h0, r0⟩ := trodAll_cons hA
  obtain ⟨rfl, rfl, rfl⟩ := trodAll_nil r0
  obtain rfl : args = #[v0] := by cases args; simp_all
  obtain ⟨rfl, rfl⟩ := trodVars_none hV
  have k0 := h0
  have lt0 : ∀ x ∈ p0, x.block < W.heap.size := by obtain ⟨m, hm⟩ := k0; exact DataW.trod_lt m _ _ _ hm
  obtain ⟨A0, c0, l0, rfl, hc0, hr0, w0⟩ := Reads.arg_slice Try.underlying40 (hval 0 40 v0 rfl rfl) rdT40 h0
  clear hA0 hval0 hsz0
  refine (QAll.saturatelaw41_IlpLarge.calls 50000 A0 c0 l0 true W hr0 hc0 (Plain.Large l0) rfl).mono fun e W' ⟨he, bel⟩ => ?_
  subst he
  exact ⟨_, rfl, _, _, _, [], _, [], hW', trodAll_mk1 (shut_bool Try.underlying4 _), (trodAll_cons_mk (Below.trod laidOut (by kernel_rfl) (of_decide_eq_true (by kernel_rfl)) k0 bel lt0) trodAll_mk0), rfl, bel.frame _, fun h => by cases h⟩
theorem over : Rows.ilpLargeRow.holds Try.pinned (OpenSpec.ofChange Rows.ilpLargeSpec) :=
  OpenClaim.holds_of_wide 5 Try.f5 rfl rfl rfl rfl rfl rfl rfl ⟨rfl, rfl, rfl, rfl, rfl⟩ rfl rfl rfl rfl rfl (by kernel_rfl) Try.func5 (by kernel_rfl)
    (of_decide_eq_true (by kernel_rfl)) (by unfold Func.isWrapper; first | (rw [if_pos (by decide +kernel)]; kernel_rfl) | (rw [if_neg (by decide +kernel)]; exact ⟨rfl, rfl⟩))
    (fun os started H enc _ => lifted os started H enc)
theorem proved : Rows.IlpLargeSaid := over
#print axioms proved
end Go.Proofs.Ytiigmklolapckaa.ilpLarge
namespace Go.Proofs.Ytiigmklolapckaa
/-- The row, under a short name, for the claim. -/
theorem ilpLarge_holds : Rows.IlpLargeSaid := ilpLarge.proved
end Go.Proofs.Ytiigmklolapckaa
