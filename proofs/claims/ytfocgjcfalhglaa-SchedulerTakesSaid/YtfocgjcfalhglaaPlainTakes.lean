/- The function of SchedulerTakes comes to true. No condition. -/
import Derived.Test.YtfocgjcfalhglaaQAllx6
import Derived.Test.YtfocgjcfalhglaaPlain
namespace Go.Proofs.Ytfocgjcfalhglaa.QAll
open Go.RowKit Go.Proofs.YtfocgjcfalhglaaW.PrintWords Go.Proofs.YtfocgjcfalhglaaW.PrintLast Go.Proofs.YtfocgjcfalhglaaW.PrintMore

theorem Takes (a b c d i f : Int) : ∃ k, saturatelaw32_SchedulerTakes.f k a b c d i f = some true := by
  refine ⟨200, ?_⟩
  obtain ⟨r, hr⟩ := take_some a b c d i f
  unfold saturatelaw32_SchedulerTakes.f
  rw [take_eq 200 (by omega), hr]
  simp only [Option.bind_some, beq_self_eq_true, Bool.and_self, if_true]
  rw [lives_some 200 (by omega)]; rfl

end Go.Proofs.Ytfocgjcfalhglaa.QAll
