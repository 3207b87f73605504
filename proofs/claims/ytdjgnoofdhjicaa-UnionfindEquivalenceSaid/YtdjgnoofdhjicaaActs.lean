/- What the law Acts tells: true, for every script. -/
import Derived.Test.YtdjgnoofdhjicaaRun
namespace Go.Proofs.Ytdjgnoofdhjicaa.UF
open Go.RowKit Go.Proofs.YtdjgnoofdhjicaaW.PrintWords Go.Proofs.YtdjgnoofdhjicaaW.PrintLast Go.Proofs.YtdjgnoofdhjicaaW.PrintMore Go.Proofs.Ytdjgnoofdhjicaa.QAll
attribute [local go_sem] max2_int min2_int max_two min_two max_three min_three max_four min_four
set_option linter.unusedVariables false
set_option linter.unusedSimpArgs false

/-- A new object is what follows from no operations. -/
theorem St.new {w w1 : World} {g : Nat} (hU : UF w.heap.size w1 g [] []) (hB : Below w.heap.size w w1) : St w w1 g [] (.slice none 0 0) := ⟨hB, hU, Kd.R_nil _ _ _ _ _, Ok.nil⟩
/-- lives, as a law ends with it. -/
theorem lives_st {w0 w : World} {g : Nat} {l : List S56} {v : Value} (h : St w0 w g l v) : Calls Try.prog 9 #[] w fun e w' => e = .returned (.bool true) ∧ Below w0.heap.size w0 w' :=
  (lives_calls w).mono fun _ _ ⟨a, b⟩ => ⟨a, below_step h.bel b⟩
theorem C_st {w0 w : World} {g n : Nat} {l : List S56} {v : Value} {As : Option Addr} {s : List S37} (h : St w0 w g l v) (hC : Kd.C k37 w0 As n s) : Kd.C k37 w As n s := Kd.C_below hC h.bel

set_option maxHeartbeats 1600000 in
theorem acts_calls (w : World) (As : Option Addr) (cs : Nat) (s : List S37) (hC : Kd.C k37 w As s.length s) (hc : s.length ≤ cs) :
    Calls Try.prog 3 #[.slice As s.length cs] w fun e w' => e = .returned (.bool true) ∧ Below w.heap.size w w' := by
  have HC := Lib.hid hC
  clear hC
  by_cases hl : s.length ≤ 60
  all_goals
    go_enter Try.func3, Try.ntmps3
    go_wp2_with fail
    refine (new_calls w.heap.size w (Nat.le_refl _)).mono ?_
    rintro e w1 ⟨g, rfl, hU, hB⟩
    have HS := Lib.hid (St.new hU hB)
    clear hU hB
    go_wp2_with (first
      | (go_at_call 10; refine (run_calls HS.out HC.out (by omega)).mono ?_; rintro e w2 ⟨v2, rfl, hS2⟩; have HS2 := Lib.hid hS2; clear hS2)
      | (go_at_call 9; refine (lives_st HS2.out).mono ?_; rintro e w3 ⟨rfl, hB3⟩)
      | (go_at_call 9; refine (lives_st HS.out).mono ?_; rintro e w3 ⟨rfl, hB3⟩))
    go_ret
    exact ⟨rfl, hB3⟩
end Go.Proofs.Ytdjgnoofdhjicaa.UF
