/- The function of SchedulerBans comes to true. No condition. -/
import Derived.Test.YtfocgjcfalhglaaQAllx7
import Derived.Test.YtfocgjcfalhglaaPlain
namespace Go.Proofs.Ytfocgjcfalhglaa.QAll
open Go.RowKit Go.Proofs.YtfocgjcfalhglaaW.PrintWords Go.Proofs.YtfocgjcfalhglaaW.PrintLast Go.Proofs.YtfocgjcfalhglaaW.PrintMore

theorem Bans (a b c d i f : Int) : ∃ k, saturatelaw32_SchedulerBans.f k a b c d i f = some true := by
  refine ⟨201, ?_⟩
  have ha := clamp_range a 1 65536 (by omega)
  have hb := clamp_range b 1 65536 (by omega)
  have hc := clamp_range c 0 30 (by omega)
  have hd := clamp_range d 0 4398046511104 (by omega)
  have hi := clamp_range i 0 1099511627776 (by omega)
  have hbl := bl_range _ _ hb.1 hb.2 hc.1 hc.2
  unfold saturatelaw32_SchedulerBans.f
  rw [tk_eq]; simp only [Option.bind_some]
  unfold tk
  split
  · simp only [thr_bl, ready_eq, Option.bind_some]
    rw [clamp_idem _ 1 65536 ha.1 ha.2, clamp_idem _ 0 30 hc.1 hc.2, clamp_idem _ 0 4398046511104 hd.1 hd.2]
    rw [if_neg (by omega)]
    by_cases hr : decide (mn (mx i 0) 1099511627776 ≥ mn (mx d 0) 4398046511104) = true
    · rw [if_pos hr]
      simp only [hr, if_true, saturatelaw32_SchedulerBans.j0, Bool.not_true, Bool.false_eq_true, if_false, lives_some 200 (by omega), Option.bind_some]
    · rw [if_neg hr]
      simp only [saturatelaw32_SchedulerBans.j0, Bool.false_eq_true, if_false, if_true, lives_some 200 (by omega), Option.bind_some]
  · have hm := bl_mono (mn (mx a 1) 65536) (mn (mx c 0) 30) (mn (mn (mx c 0) 30 + 1) 30) ha.1 ha.2 hc.1 (by unfold mn; split <;> split <;> omega) (by unfold mn; split <;> split <;> omega)
    have hc' : 0 ≤ mn (mn (mx c 0) 30 + 1) 30 ∧ mn (mn (mx c 0) 30 + 1) 30 ≤ 30 := by
      generalize mn (mx c 0) 30 = C at *
      constructor <;> (unfold mn; split <;> omega)
    simp only [thr_bl, Option.bind_some]
    rw [clamp_idem _ 1 65536 ha.1 ha.2, clamp_idem _ 0 30 hc'.1 hc'.2]
    rw [if_neg (by omega)]
    have fin : ∀ r : Bool, saturatelaw32_SchedulerBans.j0 201 i false false (mn (mx a 1) 65536) (mn (mx b 1) 65536) (mn (mn (mx c 0) 30 + 1) 30) (mn (mx i 0) 1099511627776 + 1 + bl (mn (mx b 1) 65536) (mn (mx c 0) 30)) = some true := by
      intro _
      generalize bl (mn (mx b 1) 65536) (mn (mx c 0) 30) = B at *
      simp only [saturatelaw32_SchedulerBans.j0, Bool.false_eq_true, if_false, lives_some 200 (by omega), Option.bind_some]
      split
      · simp only [ready_eq, Option.bind_some]
        generalize mn (mx i 0) 1099511627776 = I at *
        have e1 : wrap64 (I + 1 + B - 1) = I + B := by unfold wrap64; omega
        rw [e1, clamp_idem (I + B) 0 1099511627776 (by omega) (by omega), clamp_idem (I + 1 + B) 0 4398046511104 (by omega) (by omega), clamp_idem (I + 1 + B) 0 1099511627776 (by omega) (by omega)]
        rw [decide_eq_false (show ¬ (I + B ≥ I + 1 + B) by omega), decide_eq_true (show I + 1 + B ≥ I + 1 + B by omega), decide_eq_false (show ¬ (I ≥ I + 1 + B) by omega)]
        rfl
      · rfl
    rw [ready_eq]; simp only [Option.bind_some, Bool.false_eq_true, if_false, fin true, ite_self]

end Go.Proofs.Ytfocgjcfalhglaa.QAll
