/- Cost and Less of the solver and of its reference, in plain lists. Condition: few variables. -/
import Derived.Test.YtiigmklolapckaaPlainB
import Derived.Test.YtiigmklolapckaaQAllx9
namespace Go.Proofs.Ytiigmklolapckaa.Plain
open Go.RowKit Go.Proofs.YtiigmklolapckaaW.PrintWords Go.Proofs.YtiigmklolapckaaW.PrintLast Go.Proofs.YtiigmklolapckaaW.PrintMore Go.Proofs.Ytiigmklolapckaa.QAll
set_option linter.unusedVariables false

/-! ### Cost and Less -/
theorem clip (c : Int) : mx 0 (mn c 1099511627776) = mn (mx c 0) 1099511627776 := by unfold mx mn; repeat' split <;> try omega
/-- The cost of an assignment, as the machine adds. -/
def costB : List Int → List Bool → Int → Int
  | c :: cs, b :: bs, a => costB cs bs (if b = true then wrap64 (a + mn (mx c 0) 1099511627776) else a)
  | _, _, a => a
theorem cost_l0 (p0 : List Int) (p1 : List S43) (x : List Bool) (hx : x.length ≤ 1000) : ∀ (m i k : Nat) (a : Int), i + m = x.length → 2 * m + 1 < k → ilp_Cost.l0 k x a (i : Int) p0 p1 = some (costB (p0.drop i) (x.drop i) a) := by
  intro m
  induction m with
  | zero =>
    intro i k a hi hk
    obtain ⟨k, rfl, hk⟩ := fuel hk
    obtain ⟨k, rfl, hk⟩ := fuel (show 0 < k by omega)
    simp only [ilp_Cost.l0, ilp_Cost.j1]
    rw [if_neg (by omega), List.drop_of_length_le (l := x) (by omega), if_neg (by simp)]
    cases p0.drop i <;> rfl
  | succ m ih =>
    intro i k a hi hk
    obtain ⟨k, rfl, hk⟩ := fuel hk
    obtain ⟨k, rfl, hk⟩ := fuel (show 2 * m + 1 < k by omega)
    have hil : i < x.length := by omega
    simp only [ilp_Cost.l0, ilp_Cost.j1]
    rw [if_pos (by omega), dropB hil]
    by_cases hp : i < p0.length
    · rw [if_pos (decide_eq_true (by omega)), if_pos (by omega), if_pos (by omega), if_pos (show (i : Int) < p0.length by omega), dropI hp, wrap_nat i (by omega), clip]
      simp only [costB]
      by_cases e : rdOf false x (i : Int) = true
      · rw [if_pos e, if_pos e]; exact ih (i + 1) k _ (by omega) (by omega)
      · rw [if_neg e, if_neg e]; exact ih (i + 1) k _ (by omega) (by omega)
    · rw [if_neg (by simp; omega), List.drop_of_length_le (l := p0) (by omega)]; rfl
theorem rcost_l0 (p0 : List Int) (p1 : List S43) (x : List Bool) (hp : p0.length ≤ 1000) : ∀ (m i k : Nat) (a : Int), i + m = p0.length → 2 * m + 1 < k → saturateref41_Cost.l0 k x a (i : Int) p0 p1 = some (costB (p0.drop i) (x.drop i) a) := by
  intro m
  induction m with
  | zero =>
    intro i k a hi hk
    obtain ⟨k, rfl, hk⟩ := fuel hk
    obtain ⟨k, rfl, hk⟩ := fuel (show 0 < k by omega)
    simp only [saturateref41_Cost.l0, saturateref41_Cost.j1]
    rw [if_neg (by omega), List.drop_of_length_le (l := p0) (by omega), if_neg (by simp)]
    rfl
  | succ m ih =>
    intro i k a hi hk
    obtain ⟨k, rfl, hk⟩ := fuel hk
    obtain ⟨k, rfl, hk⟩ := fuel (show 2 * m + 1 < k by omega)
    have hil : i < p0.length := by omega
    simp only [saturateref41_Cost.l0, saturateref41_Cost.j1]
    rw [if_pos (by omega), dropI hil]
    by_cases hx : i < x.length
    · rw [if_pos (decide_eq_true (by omega)), if_pos (by omega), if_pos (by omega), if_pos (show (i : Int) < p0.length by omega), dropB hx, wrap_nat i (by omega)]
      simp only [costB]
      by_cases e : rdOf false x (i : Int) = true
      · rw [if_pos e, if_pos e]; exact ih (i + 1) k _ (by omega) (by omega)
      · rw [if_neg e, if_neg e]; exact ih (i + 1) k _ (by omega) (by omega)
    · rw [if_neg (by simp; omega), List.drop_of_length_le (l := x) (by omega)]; rfl
/-- a comes before b. -/
def lessB : List Bool → List Bool → Bool
  | a :: l, b :: m => if (a != b) = true then b else lessB l m
  | [], _ :: _ => true
  | _, _ => false
theorem less_l0 (x0 x1 : List Bool) (hx : x0.length ≤ 1000) : ∀ (m i k : Nat), i + m = x0.length → 2 * m + 1 < k → ilp_Less.l0 k x0 x1 (i : Int) = some (if i ≤ x1.length then lessB (x0.drop i) (x1.drop i) else false) := by
  intro m
  induction m with
  | zero =>
    intro i k hi hk
    obtain ⟨k, rfl, hk⟩ := fuel hk
    obtain ⟨k, rfl, hk⟩ := fuel (show 0 < k by omega)
    simp only [ilp_Less.l0, ilp_Less.j1]
    rw [if_neg (by omega), if_neg (by simp), List.drop_of_length_le (l := x0) (by omega)]
    by_cases h : i < x1.length
    · rw [if_pos (by omega), dropB h, decide_eq_true (by omega)]; rfl
    · rw [decide_eq_false (by omega), List.drop_of_length_le (l := x1) (by omega)]
      simp [lessB]
  | succ m ih =>
    intro i k hi hk
    obtain ⟨k, rfl, hk⟩ := fuel hk
    obtain ⟨k, rfl, hk⟩ := fuel (show 2 * m + 1 < k by omega)
    have hil : i < x0.length := by omega
    simp only [ilp_Less.l0, ilp_Less.j1]
    rw [if_pos (by omega)]
    by_cases h : i < x1.length
    · rw [if_pos (decide_eq_true (by omega)), if_pos (by omega), if_pos (by omega), if_pos (by omega), wrap_nat i (by omega), dropB hil, dropB h, if_pos (show i ≤ x1.length by omega)]
      simp only [lessB]
      by_cases e : (rdOf false x0 (i : Int) != rdOf false x1 (i : Int)) = true
      · rw [if_pos e, if_pos e]
      · rw [if_neg e, if_neg e, ih (i + 1) k (by omega) (by omega), if_pos (by omega)]
    · rw [if_neg (by simp; omega), decide_eq_false (by omega), List.drop_of_length_le (l := x1) (by omega), dropB hil]
      simp [lessB]
theorem less_eq (x0 x1 : List Bool) (hx : x0.length ≤ 1000) (k : Nat) (hk : 3000 ≤ k) : ilp_Less.f k x0 x1 = some (lessB x0 x1) := by
  have := less_l0 x0 x1 hx x0.length 0 k (by omega) (by omega)
  rw [show ((0 : Nat) : Int) = 0 from rfl, List.drop_zero, List.drop_zero, if_pos (by omega)] at this
  exact this
theorem rless_l0 (x0 x1 : List Bool) (hx : x0.length ≤ 1000) : ∀ (m i k : Nat), i + m = x0.length → 2 * m + 1 < k → saturateref41_Less.l0 k x0 x1 (i : Int) = some (if i ≤ x1.length then lessB (x0.drop i) (x1.drop i) else false) := by
  intro m
  induction m with
  | zero =>
    intro i k hi hk
    obtain ⟨k, rfl, hk⟩ := fuel hk
    obtain ⟨k, rfl, hk⟩ := fuel (show 0 < k by omega)
    simp only [saturateref41_Less.l0, saturateref41_Less.j1]
    rw [if_neg (by omega), if_neg (by simp), List.drop_of_length_le (l := x0) (by omega)]
    by_cases h : i < x1.length
    · rw [if_pos (by omega), dropB h, decide_eq_true (by omega)]; rfl
    · rw [decide_eq_false (by omega), List.drop_of_length_le (l := x1) (by omega)]
      simp [lessB]
  | succ m ih =>
    intro i k hi hk
    obtain ⟨k, rfl, hk⟩ := fuel hk
    obtain ⟨k, rfl, hk⟩ := fuel (show 2 * m + 1 < k by omega)
    have hil : i < x0.length := by omega
    simp only [saturateref41_Less.l0, saturateref41_Less.j1]
    rw [if_pos (by omega)]
    by_cases h : i < x1.length
    · rw [if_pos (decide_eq_true (by omega)), if_pos (by omega), if_pos (by omega), if_pos (by omega), wrap_nat i (by omega), dropB hil, dropB h, if_pos (show i ≤ x1.length by omega)]
      simp only [lessB]
      by_cases e : (rdOf false x0 (i : Int) != rdOf false x1 (i : Int)) = true
      · rw [if_pos e, if_pos e]
      · rw [if_neg e, if_neg e, ih (i + 1) k (by omega) (by omega), if_pos (by omega)]
    · rw [if_neg (by simp; omega), decide_eq_false (by omega), List.drop_of_length_le (l := x1) (by omega), dropB hil]
      simp [lessB]
theorem rless_eq (x0 x1 : List Bool) (hx : x0.length ≤ 1000) (k : Nat) (hk : 3000 ≤ k) : saturateref41_Less.f k x0 x1 = some (lessB x0 x1) := by
  have := rless_l0 x0 x1 hx x0.length 0 k (by omega) (by omega)
  rw [show ((0 : Nat) : Int) = 0 from rfl, List.drop_zero, List.drop_zero, if_pos (by omega)] at this
  exact this
end Go.Proofs.Ytiigmklolapckaa.Plain
