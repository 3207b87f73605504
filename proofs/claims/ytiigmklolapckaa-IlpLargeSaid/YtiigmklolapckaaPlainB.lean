/- Feasible of the solver and of its reference, in plain lists. Condition: a valid problem with few rows and coefficients. -/
import Derived.Test.YtiigmklolapckaaPlainA
import Derived.Test.YtiigmklolapckaaQAllx8
namespace Go.Proofs.Ytiigmklolapckaa.Plain
open Go.RowKit Go.Proofs.YtiigmklolapckaaW.PrintWords Go.Proofs.YtiigmklolapckaaW.PrintLast Go.Proofs.YtiigmklolapckaaW.PrintMore Go.Proofs.Ytiigmklolapckaa.QAll
set_option linter.unusedVariables false

/-- The sum of the coefficients of the variables that are true, as the machine adds. -/
def sumB : List S45 → List Bool → Int → Int
  | [], _, a => a
  | c :: cs, x, a => sumB cs x (if rdOf false x c.f0 = true then wrap64 (a + c.f1) else a)
def holdsB (r : S43) (x : List Bool) : Bool := decide (r.f1 ≤ sumB r.f0 x 0)
/-- Whether x is a solution. -/
def feas (p0 : List Int) (p1 : List S43) (x : List Bool) : Bool := decide ((chk p0 p1).2 = 0) && (decide (x.length = p0.length) && p1.all (fun r => holdsB r x))
theorem holds_l0 (L : List S45) (least : Int) (x : List Bool) (hL : L.length ≤ 70) (hv : ∀ c ∈ L, 0 ≤ c.f0 ∧ c.f0 < x.length) : ∀ (m i k : Nat) (a : Int), i + m = L.length → m < k → saturateref41_holds.l0 k x a (i : Int) L least = some (decide (least ≤ sumB (L.drop i) x a)) := by
  intro m
  induction m with
  | zero =>
    intro i k a hi hk
    obtain ⟨k, rfl, hk⟩ := fuel hk
    simp only [saturateref41_holds.l0]
    rw [if_neg (by omega), List.drop_of_length_le (by omega)]
    rfl
  | succ m ih =>
    intro i k a hi hk
    obtain ⟨k, rfl, hk⟩ := fuel hk
    have hil : i < L.length := by omega
    have := hv _ (rd45_mem hil)
    simp only [saturateref41_holds.l0]
    rw [if_pos (by omega), if_pos (by omega), if_pos this.1, if_pos this.2, wrap_nat i (by omega)]
    have es : sumB (L.drop i) x a = sumB (L.drop (i + 1)) x (if rdOf false x (rd_T45 L (i : Int)).f0 = true then wrap64 (a + (rd_T45 L (i : Int)).f1) else a) := by rw [drop45 hil]; rfl
    rw [es]
    by_cases e : rdOf false x (rd_T45 L (i : Int)).f0 = true
    · rw [if_pos e, if_pos e]; exact ih (i + 1) k _ (by omega) (by omega)
    · rw [if_neg e, if_neg e]; exact ih (i + 1) k _ (by omega) (by omega)
section
variable (p0 : List Int) (p1 : List S43) (hF : Few 70 p0 p1) (x : List Bool)
include hF
theorem rfeas_l0 (hV : Valid p0 p1) (hx : x.length = p0.length) : ∀ (m i k : Nat), i + m = p1.length → m + 100 < k → saturateref41_Feasible.l0 k x (i : Int) p0 p1 = some ((p1.drop i).all (fun r => holdsB r x)) := by
  have hr := hF.rows
  intro m
  induction m with
  | zero =>
    intro i k hi hk
    obtain ⟨k, rfl, hk⟩ := fuel hk
    simp only [saturateref41_Feasible.l0]
    rw [if_neg (by omega), List.drop_of_length_le (by omega)]
    rfl
  | succ m ih =>
    intro i k hi hk
    obtain ⟨k, rfl, hk⟩ := fuel hk
    have hil : i < p1.length := by omega
    have hm := rd43_mem hil
    have h0 := holds_l0 (rd_T43 p1 (i : Int)).f0 (rd_T43 p1 (i : Int)).f1 x (hF.coefs _ hm) (fun c hc => by have := hV.var hm hc; omega) _ 0 k 0 (Nat.zero_add _) (by have := hF.coefs _ hm; omega)
    rw [show ((0 : Nat) : Int) = 0 from rfl, List.drop_zero] at h0
    simp only [saturateref41_Feasible.l0, saturateref41_holds.f]
    rw [if_pos (by omega), if_pos (by omega), h0, Option.bind_some, drop43 hil, wrap_nat i (by omega)]
    simp only [List.all_cons]
    cases e : holdsB (rd_T43 p1 (i : Int)) x
    · have e2 := e
      unfold holdsB at e2
      rw [e2]; rfl
    · have e2 := e
      unfold holdsB at e2
      rw [e2]; exact ih (i + 1) k (by omega) (by omega)
theorem rfeas_eq (k : Nat) (hk : 9000 ≤ k) : saturateref41_Feasible.f k p0 p1 x = some (feas p0 p1 x) := by
  have hr := hF.rows
  unfold saturateref41_Feasible.f feas
  rw [rcheck_eq p0 p1 hF k (by omega), Option.bind_some]
  obtain ⟨k, rfl, hk⟩ := fuel (show 8999 < k by omega)
  simp only [saturateref41_Feasible.j0]
  by_cases h : (chk p0 p1).2 = 0
  · rw [if_pos h, decide_eq_true h]
    by_cases e : x.length = p0.length
    · rw [if_neg (by simp [e]), decide_eq_true e]
      have := rfeas_l0 p0 p1 hF x (chk_ok h) e p1.length 0 k (by omega) (by omega)
      rw [show ((0 : Nat) : Int) = 0 from rfl, List.drop_zero] at this
      rw [this]; simp
    · rw [if_pos (by simp; omega), decide_eq_false e]; simp
  · rw [if_neg h, decide_eq_false h]; simp
omit hF in
theorem feas_l1 (L : List S45) (least : Int) (i0 : Nat) (hL : L.length ≤ 70) (hi0 : i0 ≤ 100) (hv : ∀ c ∈ L, 0 ≤ c.f0 ∧ c.f0 < x.length) (K0 : Nat) (R : Bool)
    (hR : ∀ k, K0 ≤ k → ilp_Feasible.l0 k x p1 (p1.length : Int) ((i0 + 1 : Nat) : Int) = some R) :
    ∀ (m i k : Nat) (a : Int), i + m = L.length → K0 + m < k → ilp_Feasible.l1 k x a p1 (p1.length : Int) (i0 : Int) L (L.length : Int) (i : Int) L least = some (decide (least ≤ sumB (L.drop i) x a) && R) := by
  intro m
  induction m with
  | zero =>
    intro i k a hi hk
    obtain ⟨k, rfl, hk⟩ := fuel hk
    simp only [ilp_Feasible.l1]
    rw [if_neg (by omega), List.drop_of_length_le (by omega), wrap_nat i0 (by omega), hR k (by omega)]
    by_cases e : a < least
    · rw [if_pos e, decide_eq_false (show ¬ least ≤ sumB [] x a from Int.not_le.2 e)]; rfl
    · rw [if_neg e, decide_eq_true (show least ≤ sumB [] x a from Int.not_lt.1 e)]; rfl
  | succ m ih =>
    intro i k a hi hk
    obtain ⟨k, rfl, hk⟩ := fuel hk
    have hil : i < L.length := by omega
    have := hv _ (rd45_mem hil)
    simp only [ilp_Feasible.l1]
    rw [if_pos (by omega), if_pos (by omega), if_pos (by omega), if_pos this.1, if_pos this.2, wrap_nat i (by omega)]
    have es : sumB (L.drop i) x a = sumB (L.drop (i + 1)) x (if rdOf false x (rd_T45 L (i : Int)).f0 = true then wrap64 (a + (rd_T45 L (i : Int)).f1) else a) := by rw [drop45 hil]; rfl
    rw [es]
    by_cases e : rdOf false x (rd_T45 L (i : Int)).f0 = true
    · rw [if_pos e, if_pos e]; exact ih (i + 1) k _ (by omega) (by omega)
    · rw [if_neg e, if_neg e]; exact ih (i + 1) k _ (by omega) (by omega)
theorem feas_l0 (hV : Valid p0 p1) (hx : x.length = p0.length) : ∀ (m i k : Nat), i + m = p1.length → m * 80 < k → ilp_Feasible.l0 k x p1 (p1.length : Int) (i : Int) = some ((p1.drop i).all (fun r => holdsB r x)) := by
  have hr := hF.rows
  intro m
  induction m with
  | zero =>
    intro i k hi hk
    obtain ⟨k, rfl, hk⟩ := fuel hk
    simp only [ilp_Feasible.l0]
    rw [if_neg (by omega), List.drop_of_length_le (by omega)]
    rfl
  | succ m ih =>
    intro i k hi hk
    obtain ⟨k, rfl, hk⟩ := fuel hk
    have hil : i < p1.length := by omega
    have hm := rd43_mem hil
    have hcf := hF.coefs _ hm
    simp only [ilp_Feasible.l0]
    have h1 := feas_l1 p1 x (rd_T43 p1 (i : Int)).f0 (rd_T43 p1 (i : Int)).f1 i hcf (by omega) (fun c hc => by have := hV.var hm hc; omega) (m * 80 + 1) _ (fun k hk => ih (i + 1) k (by omega) (by omega)) _ 0 k 0 (Nat.zero_add _) (by omega)
    rw [show ((0 : Nat) : Int) = 0 from rfl, List.drop_zero] at h1
    rw [if_pos (by omega), if_pos (by omega), if_pos (by omega), h1, drop43 hil]
    rfl
theorem feas_eq (k : Nat) (hk : 9000 ≤ k) : ilp_Feasible.f k p0 p1 x = some (feas p0 p1 x) := by
  have hr := hF.rows
  unfold ilp_Feasible.f feas
  rw [check_eq p0 p1 hF k (by omega), Option.bind_some]
  obtain ⟨k, rfl, hk⟩ := fuel (show 8999 < k by omega)
  simp only [ilp_Feasible.j0]
  by_cases h : (chk p0 p1).2 = 0
  · rw [if_pos h, decide_eq_true h]
    by_cases e : x.length = p0.length
    · rw [if_neg (by simp [e]), decide_eq_true e]
      have := feas_l0 p0 p1 hF x (chk_ok h) e p1.length 0 k (by omega) (by omega)
      rw [show ((0 : Nat) : Int) = 0 from rfl, List.drop_zero] at this
      rw [this]; simp
    · rw [if_pos (by simp; omega), decide_eq_false e]; simp
  · rw [if_neg h, decide_eq_false h]; simp
end
end Go.Proofs.Ytiigmklolapckaa.Plain
