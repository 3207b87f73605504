/- The law Solves, in plain lists. No condition. -/
import Derived.Test.YtiigmklolapckaaPlain9
import Derived.Test.YtiigmklolapckaaQAllx16
namespace Go.Proofs.Ytiigmklolapckaa.Plain
open Go.RowKit Go.Proofs.YtiigmklolapckaaW.PrintWords Go.Proofs.YtiigmklolapckaaW.PrintLast Go.Proofs.YtiigmklolapckaaW.PrintMore Go.Proofs.Ytiigmklolapckaa.QAll
set_option linter.unusedVariables false
/-- The law Solves. -/
theorem Solves (p0 : List Int) (p1 : List S43) : saturatelaw41_IlpSolves.f 50000 p0 p1 = some true := by
  have hlv := lives_eq 50000 (by omega)
  unfold saturatelaw41_IlpSolves.f
  obtain ⟨b, e, hF⟩ := few_eq 9 (by omega) p0 p1 50000 (by omega)
  rw [show ((9 : Nat) : Int) = 9 from rfl] at e
  rw [e, Option.bind_some]
  by_cases hbt : b = true
  · have hF := hF hbt
    have hco := hF.costs
    have hF := hF.mono (m := 70) (by omega)
    obtain ⟨r, h1, h2, h3⟩ := rsolve_eq p0 p1 hF hco 50000 (by omega)
    have hs : ilp_Solve.f p0 p1 = some r ∧ r.1.length ≤ 1000 := by
      by_cases hc : (chk p0 p1).2 = 0
      · obtain ⟨r2, g1, g2⟩ := solve_eq p0 p1 hF (chk_ok hc) hc
        have h2 := h2 hc
        rw [g1, g2.unique h2]
        refine ⟨rfl, ?_⟩
        rcases h2 with ⟨rfl, _⟩ | ⟨s, h, rfl⟩
        · simp
        · simp only; rw [h.1.1]; omega
      · have h3 := h3 hc
        rw [h3]
        refine ⟨?_, by simp⟩
        unfold ilp_Solve.f
        rw [check_eq p0 p1 hF _ (by omega), Option.bind_some, if_neg hc]
    rw [if_pos hbt, hs.1, Option.bind_some, h1, Option.bind_some, if_pos rfl, if_pos rfl, bsame_eq _ hs.2 _ (by omega), hlv]
    rfl
  · rw [if_neg hbt, hlv]; rfl
end Go.Proofs.Ytiigmklolapckaa.Plain
