/- What the law Sets tells: true, for every script. -/
import Derived.Test.YtdjgnoofdhjicaaAgree
namespace Go.Proofs.Ytdjgnoofdhjicaa.UF
open Go.RowKit Go.Proofs.YtdjgnoofdhjicaaW.PrintWords Go.Proofs.YtdjgnoofdhjicaaW.PrintLast Go.Proofs.YtdjgnoofdhjicaaW.PrintMore Go.Proofs.Ytdjgnoofdhjicaa.QAll
attribute [local go_sem] max2_int min2_int max_two min_two max_three min_three max_four min_four
set_option linter.unusedVariables false
set_option linter.unusedSimpArgs false

set_option maxHeartbeats 1600000 in
theorem sets_calls (w : World) (As : Option Addr) (cs : Nat) (s : List S37) (hC : Kd.C k37 w As s.length s) (hc : s.length ≤ cs) :
    Calls Try.prog 5 #[.slice As s.length cs] w fun e w' => e = .returned (.bool true) ∧ Below w.heap.size w w' := by
  have HC := Lib.hid hC
  have hrl := runl_length s
  clear hC
  by_cases hl : s.length ≤ 30
  all_goals
    go_enter Try.func5, Try.ntmps5
    go_wp2_with fail
    refine (new_calls w.heap.size w (Nat.le_refl _)).mono ?_
    rintro e w1 ⟨g, rfl, hU, hB⟩
    have HS := Lib.hid (St.new hU hB)
    clear hU hB
    go_wp2_with (first
      | (go_at_call 10; refine (run_calls HS.out HC.out (by omega)).mono ?_; rintro e w2 ⟨v2, rfl, hS2⟩; have HS2 := Lib.hid hS2; clear hS2)
      | (go_at_call 14; refine (agree_calls HS2.out (by omega)).mono ?_; rintro e w3 ⟨rfl, hS3⟩; have HS3 := Lib.hid hS3; clear hS3)
      | (go_at_call 9; refine (lives_st HS3.out).mono ?_; rintro e w3 ⟨rfl, hB3⟩)
      | (go_at_call 9; refine (lives_st HS.out).mono ?_; rintro e w3 ⟨rfl, hB3⟩))
    go_ret
    exact ⟨rfl, hB3⟩
end Go.Proofs.Ytdjgnoofdhjicaa.UF
