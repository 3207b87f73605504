/- The law UnionfindEquivalence of the given program: for every input it returns true, and its arguments read afterwards as before. No condition. -/
import Derived.Test.YtdjgnoofdhjicaaRows
import Derived.Test.YtdjgnoofdhjicaaReads
import Derived.Test.YtdjgnoofdhjicaaEquiv
import Derived.WalkKit
import Derived.ProofKit
import Derived.OpenShut
import Derived.ShutString
import Derived.ChangeOld
import Derived.Below
import Derived.SizedLaws
import Derived.Laws.IdiomArrays
namespace Go.Proofs.Ytdjgnoofdhjicaa.unionfindEquivalence
open Go.ChangeShapes Go.WideShapes Go.ChangeAt Go.RowKit Go.Proofs.YtdjgnoofdhjicaaW.PrintWords
open Go.ChangeMaps (open_string shut_string)
set_option linter.unusedVariables false
theorem own : ownKnob Try.prog.godebug = none := by kernel_rfl
theorem laidOut : laidOutB Try.prog = true := by kernel_rfl
open Go.ChangeShapes
open Go.Proofs.Ytdjgnoofdhjicaa.QAll
theorem rdT37 {H : Type} {enc : TypeId × Value → H} {W : World} {base : Nat} {spare : Nat → Bool} {held : Bool} : Reads.Rd enc Try.prog W base spare held 37 k37 (fun _ => True) :=
  Reads.rd_struct3 (fun a b c => (⟨a, b, c⟩ : S37)) Try.underlying37 rfl rfl rfl (by kernel_rfl) (by kernel_rfl) (by kernel_rfl) (by kernel_rfl) (Reads.rd_int Try.underlying3) (Reads.rd_int Try.underlying3) (Reads.rd_int Try.underlying3) (fun _ _ _ => rfl) (fun _ _ _ _ _ _ => trivial)
theorem rdT22 {H : Type} {enc : TypeId × Value → H} {W : World} {base : Nat} {spare : Nat → Bool} {held : Bool} : Reads.Rd enc Try.prog W base spare held 22 (Kd.slice 37 k37) (fun l => l.length ≤ maxLen ∧ ∀ x ∈ l, True) :=
  Reads.rd_slice Try.underlying22 (by kernel_rfl) rdT37
theorem arg_ints3 {H : Type} {enc : TypeId × Value → H} {P : Program} {W : World} {base : Nat} {spare : Nat → Bool} {held : Bool} {T e : TypeId} {k : IntKind} {v : Value} {y : DataW H} {ps : List MemPlace} {r : Reach} {b0 : Nat} (ht : P.underlying T = some (.array 3 e)) (he : P.underlying e = some (.int k)) (hce : P.cellsOf e = 1) (hcT : P.cellsOf T = 3)
    (hv : Value.okWide P W r b0 T v) (h : DataW.Trod enc P W base spare held T v y ps) : ∃ a b c, v = .agg #[.int k a, .int k b, .int k c] := by
  unfold Value.okWide at hv
  rw [ht] at hv
  obtain ⟨cs, rfl, hs, _⟩ := hv
  obtain ⟨fuel, hf⟩ := h
  have h3 : cs.size = 3 := by rw [hs, hcT]
  obtain ⟨c0, c1, c2, rfl⟩ : ∃ c0 c1 c2, cs = #[c0, c1, c2] := by
    rcases cs with ⟨l⟩
    match l, h3 with
    | [c0, c1, c2], _ => exact ⟨c0, c1, c2, rfl⟩
  obtain ⟨y0, y1, y2, n, _, t0, t1, t2⟩ := trod_array3 ht hce hf
  obtain ⟨a, e0, _⟩ := DataW.trod_int he t0
  obtain ⟨b, e1, _⟩ := DataW.trod_int he t1
  obtain ⟨c, e2, _⟩ := DataW.trod_int he t2
  cases e0; cases e1; cases e2
  exact ⟨a, b, c, rfl⟩
set_option maxRecDepth 100000 in
theorem lifted (os : Os) (started : os.Started) (H : Type) (enc : TypeId × Value → H) :
    ReturnsInHanded {} Try.checked os 4 .any (Rows.unionfindEquivalenceSpec.pre6 enc Try.prog Try.f4 Rows.unionfindEquivalenceRow.domain false) (Rows.unionfindEquivalenceSpec.post enc Try.prog Try.f4 false true false false) := by
  refine returnsInHanded_of_change_sized (C := Try.checked) own started (by kernel_rfl) Try.func4
    (ChangeSpec.witness6 (enc := enc) (C := Try.checked) false ⟨#[], #[.slice none 0 0, .agg #[.int .i64 0, .int .i64 0, .int .i64 0]], []⟩ 8 (by kernel_rfl) (by kernel_rfl) (by kernel_rfl) (by kernel_rfl)) ?_
  intro W base args ds gs before hval0 hW hcnd hsz0 _
  have hval : ∀ (j : Nat) t v, Try.f4.params[j]? = some t → args[j]? = some v → Value.okWide Try.prog W .any base t v := hval0
  have hW' := hW
  obtain ⟨p, q, hA0, hV, rfl, hfz, hnd⟩ := hW
  have hA : DataW.TrodAll enc Try.prog W 0 (fun _ => true) true Try.f4.params.toList args.toList ds p := hA0
  rw [Try.params4] at hA hval
  obtain ⟨v0, vs0, d0, ds0, p0, q0, hargs, rfl, rfl, h0, r0⟩ := trodAll_cons hA
  obtain ⟨v1, vs1, d1, ds1, p1, q1, rfl, rfl, rfl, h1, r1⟩ := trodAll_cons r0
  obtain ⟨rfl, rfl, rfl⟩ := trodAll_nil r1
  obtain rfl : args = #[v0, v1] := by cases args; simp_all
  obtain ⟨rfl, rfl⟩ := trodVars_none hV
  have k0 := h0
  have lt0 : ∀ x ∈ p0, x.block < W.heap.size := by obtain ⟨m, hm⟩ := k0; exact DataW.trod_lt m _ _ _ hm
  obtain ⟨A0, c0, l0, rfl, hc0, hr0, w0⟩ := Reads.arg_slice Try.underlying22 (hval 0 22 v0 rfl rfl) rdT22 h0
  have k1 := h1
  have lt1 : ∀ x ∈ p1, x.block < W.heap.size := by obtain ⟨m, hm⟩ := k1; exact DataW.trod_lt m _ _ _ hm
  obtain ⟨x1, y1, z1, rfl⟩ := arg_ints3 Try.underlying30 Try.underlying3 (by kernel_rfl) (by kernel_rfl) (hval 1 30 v1 rfl rfl) h1
  clear hA0 hval0 hsz0
  refine (UF.equiv_calls W A0 c0 l0 x1 y1 z1 hr0 hc0).mono fun e W' ⟨he, bel⟩ => ?_
  subst he
  exact ⟨_, rfl, _, _, _, [], _, [], hW', trodAll_mk1 (shut_bool Try.underlying4 _), (trodAll_cons_mk (Below.trod laidOut (by kernel_rfl) (of_decide_eq_true (by kernel_rfl)) k0 bel lt0) (trodAll_cons_mk (Below.trod laidOut (by kernel_rfl) (of_decide_eq_true (by kernel_rfl)) k1 bel lt1) trodAll_mk0)), rfl, bel.frame _, fun h => by cases h⟩
theorem over : Rows.unionfindEquivalenceRow.holds Try.pinned (OpenSpec.ofChange Rows.unionfindEquivalenceSpec) :=
  OpenClaim.holds_of_wide 4 Try.f4 rfl rfl rfl rfl rfl rfl rfl ⟨rfl, rfl, rfl, rfl, rfl⟩ rfl rfl rfl rfl rfl (by kernel_rfl) Try.func4 (by kernel_rfl)
    (of_decide_eq_true (by kernel_rfl)) (by unfold Func.isWrapper; first | (rw [if_pos (by decide +kernel)]; kernel_rfl) | (rw [if_neg (by decide +kernel)]; exact ⟨rfl, rfl⟩))
    (fun os started H enc _ => lifted os started H enc)
theorem proved : Rows.UnionfindEquivalenceSaid := over
#print axioms proved
end Go.Proofs.Ytdjgnoofdhjicaa.unionfindEquivalence
namespace Go.Proofs.Ytdjgnoofdhjicaa
/-- The row, under a short name, for the claim. -/
theorem unionfindEquivalence_holds : Rows.UnionfindEquivalenceSaid := unionfindEquivalence.proved
end Go.Proofs.Ytdjgnoofdhjicaa
