/- Check of the solver and of its reference, what a valid problem is, and what the laws share, in plain lists. Condition: few variables, rows and coefficients. -/
import Derived.Test.YtiigmklolapckaaQAllx7
import Derived.Test.YtiigmklolapckaaQAllx2
import Derived.Test.YtiigmklolapckaaQAllx1
import Derived.Test.YtiigmklolapckaaQAllx5
namespace Go.Proofs.Ytiigmklolapckaa.Plain
open Go.RowKit Go.Proofs.YtiigmklolapckaaW.PrintWords Go.Proofs.YtiigmklolapckaaW.PrintLast Go.Proofs.YtiigmklolapckaaW.PrintMore Go.Proofs.Ytiigmklolapckaa.QAll
set_option linter.unusedVariables false

theorem wrap_nat (n : Nat) (h : n ≤ 1000000) : wrap64 ((n : Int) + 1) = ((n + 1 : Nat) : Int) := by unfold wrap64; omega
theorem drop45 {L : List S45} {j : Nat} (h : j < L.length) : L.drop j = rd_T45 L (j : Int) :: L.drop (j + 1) := by
  rw [List.drop_eq_getElem_cons h]; simp [rd_T45, List.getD_eq_getElem?_getD, List.getElem?_eq_getElem h]
theorem drop43 {L : List S43} {j : Nat} (h : j < L.length) : L.drop j = rd_T43 L (j : Int) :: L.drop (j + 1) := by
  rw [List.drop_eq_getElem_cons h]; simp [rd_T43, List.getD_eq_getElem?_getD, List.getElem?_eq_getElem h]
theorem dropI {L : List Int} {j : Nat} (h : j < L.length) : L.drop j = rd L (j : Int) :: L.drop (j + 1) := by
  rw [List.drop_eq_getElem_cons h]; simp [rd, List.getD_eq_getElem?_getD, List.getElem?_eq_getElem h]
theorem dropB {L : List Bool} {j : Nat} (h : j < L.length) : L.drop j = rdOf false L (j : Int) :: L.drop (j + 1) := by
  rw [List.drop_eq_getElem_cons h]; simp [rdOf, List.getD_eq_getElem?_getD, List.getElem?_eq_getElem h]
theorem fuel {k n : Nat} (h : n < k) : ∃ m, k = m + 1 ∧ n ≤ m := ⟨k - 1, by omega, by omega⟩

/-! ### a row -/
/-- A coefficient that is out of range. -/
def badC (vars : Int) (c : S45) : Prop := c.f0 < 0 ∨ vars ≤ c.f0 ∨ c.f1 < -1048576 ∨ 1048576 < c.f1 ∨ c.f1 = 0
instance (vars : Int) (c : S45) : Decidable (badC vars c) := by unfold badC; infer_instance
/-- Whether a variable stands twice, or in seen. -/
def dupF : List S45 → List Int → Bool
  | [], _ => false
  | c :: cs, seen => seen.contains c.f0 || dupF cs (c.f0 :: seen)
theorem scan_eq (vars : Int) : ∀ (cs : List S45) (seen : List Int) (tw : Bool), rowScan vars cs seen tw = if ∃ c ∈ cs, badC vars c then none else some (tw || dupF cs seen)
  | [], seen, tw => by simp [rowScan, dupF]
  | c :: cs, seen, tw => by
    unfold rowScan
    by_cases h : badC vars c
    · rw [if_pos (show c.f0 < 0 ∨ vars ≤ c.f0 ∨ c.f1 < -1048576 ∨ 1048576 < c.f1 ∨ c.f1 = 0 from h), if_pos ⟨c, by simp, h⟩]
    · rw [if_neg (show ¬ (c.f0 < 0 ∨ vars ≤ c.f0 ∨ c.f1 < -1048576 ∨ 1048576 < c.f1 ∨ c.f1 = 0) from h), scan_eq vars cs]
      by_cases h2 : ∃ c ∈ cs, badC vars c
      · rw [if_pos h2, if_pos (by obtain ⟨d, hd, hb⟩ := h2; exact ⟨d, by simp [hd], hb⟩)]
      · rw [if_neg h2, if_neg (by rintro ⟨d, hd, hb⟩; rcases List.mem_cons.1 hd with rfl | hd; exact h hb; exact h2 ⟨d, hd, hb⟩)]
        simp [dupF, Bool.or_assoc]
/-- The variables of the first i coefficients. -/
def seenAt (L : List S45) (i : Nat) : List Int := ((L.take i).map (·.f0)).reverse
theorem seenAt_succ {L : List S45} {i : Nat} (h : i < L.length) : seenAt L (i + 1) = (rd_T45 L (i : Int)).f0 :: seenAt L i := by
  have e : rd_T45 L (i : Int) = L[i] := by simp [rd_T45, List.getD_eq_getElem?_getD, List.getElem?_eq_getElem h]
  unfold seenAt
  rw [List.take_succ_eq_append_getElem h, List.map_append, List.reverse_append, e]
  rfl
theorem seenAt_mem {L : List S45} {i : Nat} (h : i ≤ L.length) (v : Int) : (seenAt L i).contains v = true ↔ ∃ k : Nat, k < i ∧ (rd_T45 L (k : Int)).f0 = v := by
  induction i with
  | zero => simp [seenAt]
  | succ i ih =>
    rw [seenAt_succ (by omega)]
    simp only [List.contains_cons, Bool.or_eq_true, beq_iff_eq, ih (by omega)]
    constructor
    · rintro (h1 | ⟨k, hk, h1⟩)
      · exact ⟨i, by omega, h1.symm⟩
      · exact ⟨k, by omega, h1⟩
    · rintro ⟨k, hk, h1⟩
      by_cases e : k = i
      · subst e; exact .inl h1.symm
      · exact .inr ⟨k, by omega, h1⟩
section
attribute [local instance low] Classical.propDecidable
variable (L : List S45) (least : Int) (hL : L.length ≤ 70)
include hL
theorem row_l2 (R : Int) (i : Nat) (hi : i < L.length) (K0 : Nat) (hR : ∀ k, K0 ≤ k → saturateref41_row.l1 k ((i + 1 : Nat) : Int) L least = some R) :
    ∀ (m j k : Nat), j + m = i → K0 + m < k → saturateref41_row.l2 k (i : Int) (j : Int) L least = some (if ∃ q : Nat, j ≤ q ∧ q < i ∧ (rd_T45 L (q : Int)).f0 = (rd_T45 L (i : Int)).f0 then 9 else R) := by
  intro m
  induction m with
  | zero =>
    intro j k hj hk
    obtain ⟨k, rfl, hk⟩ := fuel hk
    simp only [saturateref41_row.l2]
    rw [if_neg (by omega), wrap_nat i (by omega), hR k (by omega), if_neg (by rintro ⟨q, h1, h2, _⟩; omega)]
  | succ m ih =>
    intro j k hj hk
    obtain ⟨k, rfl, hk⟩ := fuel hk
    simp only [saturateref41_row.l2]
    rw [if_pos (by omega), if_pos (by omega), if_pos (by omega), if_pos (by omega), if_pos (by omega), wrap_nat j (by omega)]
    by_cases e : (rd_T45 L (i : Int)).f0 = (rd_T45 L (j : Int)).f0
    · rw [if_pos e, if_pos ⟨j, Nat.le_refl _, by omega, e.symm⟩]
    · rw [if_neg e, ih (j + 1) k (by omega) (by omega)]
      have : (∃ q : Nat, j + 1 ≤ q ∧ q < i ∧ (rd_T45 L (q : Int)).f0 = (rd_T45 L (i : Int)).f0) ↔ ∃ q : Nat, j ≤ q ∧ q < i ∧ (rd_T45 L (q : Int)).f0 = (rd_T45 L (i : Int)).f0 := by
        constructor
        · rintro ⟨q, h1, h2, h3⟩; exact ⟨q, by omega, h2, h3⟩
        · rintro ⟨q, h1, h2, h3⟩
          by_cases e2 : q = j
          · subst e2; exact absurd h3.symm e
          · exact ⟨q, by omega, h2, h3⟩
      simp only [this]
theorem row_l1 : ∀ (m i k : Nat), i + m = L.length → m * 72 + 1 < k → saturateref41_row.l1 k (i : Int) L least = some (if dupF (L.drop i) (seenAt L i) then 9 else 0) := by
  intro m
  induction m with
  | zero =>
    intro i k hi hk
    obtain ⟨k, rfl, hk⟩ := fuel hk
    simp only [saturateref41_row.l1]
    rw [if_neg (by omega), List.drop_of_length_le (by omega)]
    simp [dupF]
  | succ m ih =>
    intro i k hi hk
    obtain ⟨k, rfl, hk⟩ := fuel hk
    simp only [saturateref41_row.l1]
    have hil : i < L.length := by omega
    rw [if_pos (by omega)]
    have := row_l2 L least hL _ i hil (m * 72 + 2) (fun k hk => ih (i + 1) k (by omega) (by omega)) i 0 k (by omega) (by omega)
    rw [show ((0 : Nat) : Int) = 0 from rfl] at this
    rw [this]
    have hs := seenAt_mem (L := L) (i := i) (by omega) (rd_T45 L (i : Int)).f0
    have hd : dupF (L.drop i) (seenAt L i) = ((seenAt L i).contains (rd_T45 L (i : Int)).f0 || dupF (L.drop (i + 1)) ((rd_T45 L (i : Int)).f0 :: seenAt L i)) := by rw [drop45 hil]; rfl
    by_cases e : (seenAt L i).contains (rd_T45 L (i : Int)).f0 = true
    · have hd1 : dupF (L.drop i) (seenAt L i) = true := by rw [hd, e]; rfl
      rw [if_pos (by obtain ⟨q, h1, h2⟩ := hs.1 e; exact ⟨q, by omega, h1, h2⟩), if_pos hd1]
    · have hd1 : dupF (L.drop i) (seenAt L i) = dupF (L.drop (i + 1)) (seenAt L (i + 1)) := by rw [hd, Bool.eq_false_iff.2 e, seenAt_succ hil]; rfl
      rw [if_neg (by rintro ⟨q, h0, h1, h2⟩; exact e (hs.2 ⟨q, h1, h2⟩)), hd1]
theorem row_l0 (p0 : List Int) (p1 : List S43) : ∀ (m i k : Nat), i + m = L.length → m + 6000 < k → (∀ q : Nat, q < i → ¬ badC p0.length (rd_T45 L (q : Int))) →
    saturateref41_row.l0 k (i : Int) p0 p1 L least = some (if ∃ c ∈ L.drop i, badC p0.length c then 2 else if least < -1099511627776 ∨ 1099511627776 < least then 2 else if dupF L [] then 9 else 0) := by
  intro m
  induction m with
  | zero =>
    intro i k hi hk hq
    obtain ⟨k, rfl, hk⟩ := fuel hk
    obtain ⟨k, rfl, hk⟩ := fuel (show 5000 < k by omega)
    have h1 := row_l1 L least hL L.length 0 k (by omega) (by omega)
    rw [show ((0 : Nat) : Int) = 0 from rfl] at h1
    have e0 : seenAt L 0 = [] := by simp [seenAt]
    rw [e0, List.drop_zero] at h1
    simp only [saturateref41_row.l0, saturateref41_row.j1]
    have hn : ¬ ∃ c ∈ ([] : List S45), badC p0.length c := by simp
    rw [if_neg (by omega), List.drop_of_length_le (by omega), if_neg hn, h1]
    by_cases a1 : least < -1099511627776
    · rw [if_pos a1, if_pos (Or.inl a1 : least < -1099511627776 ∨ 1099511627776 < least)]
      simp
    · rw [if_neg a1]
      by_cases a2 : 1099511627776 < least
      · rw [if_pos (Or.inr a2 : least < -1099511627776 ∨ 1099511627776 < least), if_pos (decide_eq_true a2 : decide (least > 1099511627776) = true)]
      · rw [if_neg (by omega : ¬ (least < -1099511627776 ∨ 1099511627776 < least)), if_neg (by simpa using a2 : ¬ decide (least > 1099511627776) = true)]
  | succ m ih =>
    intro i k hi hk hq
    obtain ⟨k, rfl, hk⟩ := fuel hk
    have hil : i < L.length := by omega
    simp only [saturateref41_row.l0]
    rw [if_pos (by omega), if_pos (by omega), wrap_nat i (by omega), drop45 hil]
    by_cases b : badC p0.length (rd_T45 L (i : Int))
    · have hx : ∃ c ∈ rd_T45 L (i : Int) :: L.drop (i + 1), badC p0.length c := ⟨_, List.mem_cons_self, b⟩
      rw [if_pos hx]
      rcases b with b | b | b | b | b
      · rw [if_pos b]
      · by_cases b1 : (rd_T45 L (i : Int)).f0 < 0
        · rw [if_pos b1]
        · rw [if_neg b1, if_pos b]
      all_goals
        repeat' (first | rfl | split)
        all_goals omega
    · have b0 := b
      simp only [badC, not_or] at b
      rw [if_neg b.1, if_neg (by omega), if_neg b.2.2.1, if_neg (by omega), if_neg b.2.2.2.2, ih (i + 1) k (by omega) (by omega) (fun q hq1 => by
        by_cases e : q = i
        · subst e; exact b0
        · exact hq q (by omega))]
      have : (∃ c ∈ rd_T45 L (i : Int) :: L.drop (i + 1), badC p0.length c) ↔ ∃ c ∈ L.drop (i + 1), badC p0.length c := by
        constructor
        · rintro ⟨c, hc, hb⟩
          rcases List.mem_cons.1 hc with rfl | hc
          · exact absurd hb b0
          · exact ⟨c, hc, hb⟩
        · rintro ⟨c, hc, hb⟩; exact ⟨c, List.mem_cons_of_mem _ hc, hb⟩
      simp only [this]
/-- The reference's row tells what the solver's does. -/
theorem row_eq (p0 : List Int) (p1 : List S43) (k : Nat) (hk : 6200 ≤ k) : saturateref41_row.f k p0 p1 L least = some (rowErr L least p0.length) := by
  unfold saturateref41_row.f rowErr
  by_cases h : 64 < L.length
  · rw [if_pos (by omega), if_pos h]
  · rw [if_neg (by omega), if_neg h]
    have h0 := row_l0 L least hL p0 p1 L.length 0 k (by omega) (by omega) (fun q hq => by omega)
    rw [show ((0 : Nat) : Int) = 0 from rfl, List.drop_zero] at h0
    rw [h0, scan_eq]
    by_cases b : ∃ c ∈ L, badC p0.length c
    · rw [if_pos b, if_pos b]
    · rw [if_neg b, if_neg b]; simp
end
/-! ### Check -/
/-- Few rows and coefficients. -/
structure Few (n : Nat) (p0 : List Int) (p1 : List S43) : Prop where
  costs : p0.length ≤ n
  rows : p1.length ≤ 90
  coefs : ∀ r ∈ p1, r.f0.length ≤ 70
theorem rd43_mem {p1 : List S43} {i : Nat} (h : i < p1.length) : rd_T43 p1 (i : Int) ∈ p1 := by
  have e : rd_T43 p1 (i : Int) = p1[i] := by simp [rd_T43, List.getD_eq_getElem?_getD, List.getElem?_eq_getElem h]
  rw [e]; exact List.getElem_mem h
def chkRows (vars : Int) : List S43 → Nat → Int × Int
  | [], _ => (0, 0)
  | r :: rs, i => if rowErr r.f0 r.f1 vars = 0 then chkRows vars rs (i + 1) else ((i : Int), rowErr r.f0 r.f1 vars)
def chkCosts : List Int → Nat → Option (Int × Int)
  | [], _ => none
  | c :: cs, i => if c < 0 then some ((i : Int), 2) else if 1099511627776 < c then some ((i : Int), 2) else chkCosts cs (i + 1)
/-- The error of a problem. -/
def chk (p0 : List Int) (p1 : List S43) : Int × Int :=
  if 64 < p0.length then (0, 7) else if 1024 < p1.length then (0, 7) else (chkCosts p0 0).getD (chkRows p0.length p1 0)
section
variable (p0 : List Int) (p1 : List S43) (hF : Few 70 p0 p1)
include hF
theorem check_l1 : ∀ (m i k : Nat), i + m = p1.length → m < k → ilp_Check.l1 k p1 (p1.length : Int) (i : Int) p0 p1 = some (chkRows p0.length (p1.drop i) i) := by
  have hr := hF.rows
  have hc := hF.costs
  intro m
  induction m with
  | zero =>
    intro i k hi hk
    obtain ⟨k, rfl, hk⟩ := fuel hk
    simp only [ilp_Check.l1]
    rw [if_neg (by omega), List.drop_of_length_le (by omega)]
    rfl
  | succ m ih =>
    intro i k hi hk
    obtain ⟨k, rfl, hk⟩ := fuel hk
    have hil : i < p1.length := by omega
    simp only [ilp_Check.l1]
    have hrow : ilp_row.f (rd_T43 p1 (i : Int)).f0 (rd_T43 p1 (i : Int)).f1 (p0.length : Int) = some (rowErr (rd_T43 p1 (i : Int)).f0 (rd_T43 p1 (i : Int)).f1 (p0.length : Int)) := by unfold ilp_row.f; rw [if_pos (by omega)]
    rw [if_pos (by omega), if_pos (by omega), if_pos (by omega), hrow, Option.bind_some, drop43 hil, wrap_nat i (by omega)]
    unfold chkRows
    by_cases e : rowErr (rd_T43 p1 (i : Int)).f0 (rd_T43 p1 (i : Int)).f1 (p0.length : Int) = 0
    · rw [if_pos e, if_pos e, ih (i + 1) k (by omega) (by omega)]
    · rw [if_neg e, if_neg e]
theorem check_l0 : ∀ (m i k : Nat), i + m = p0.length → m + 100 < k → ilp_Check.l0 k p0 (p0.length : Int) (i : Int) p0 p1 = some ((chkCosts (p0.drop i) i).getD (chkRows p0.length p1 0)) := by
  have hr := hF.rows
  have hc := hF.costs
  intro m
  induction m with
  | zero =>
    intro i k hi hk
    obtain ⟨k, rfl, hk⟩ := fuel hk
    have h1 := check_l1 p0 p1 hF p1.length 0 k (by omega) (by omega)
    rw [show ((0 : Nat) : Int) = 0 from rfl, List.drop_zero] at h1
    simp only [ilp_Check.l0]
    rw [if_neg (by omega), List.drop_of_length_le (by omega), h1]
    rfl
  | succ m ih =>
    intro i k hi hk
    obtain ⟨k, rfl, hk⟩ := fuel hk
    have hil : i < p0.length := by omega
    simp only [ilp_Check.l0]
    rw [if_pos (by omega), if_pos (by omega), if_pos (by omega), dropI hil, wrap_nat i (by omega), ih (i + 1) k (by omega) (by omega)]
    simp only [chkCosts]
    by_cases a1 : rd p0 (i : Int) < 0
    · rw [if_pos a1, if_pos a1]; rfl
    · rw [if_neg a1, if_neg a1]
      by_cases a2 : 1099511627776 < rd p0 (i : Int)
      · rw [if_pos a2, if_pos a2]; rfl
      · rw [if_neg a2, if_neg a2]
theorem check_eq (k : Nat) (hk : 1000 ≤ k) : ilp_Check.f k p0 p1 = some (chk p0 p1) := by
  have hr := hF.rows
  have hc := hF.costs
  obtain ⟨k, rfl, hk⟩ := fuel (show 999 < k by omega)
  unfold ilp_Check.f chk
  simp only [ilp_Check.j0]
  by_cases a : 64 < p0.length
  · rw [if_pos (by omega), if_pos trivial, if_pos a]
  · rw [if_neg (by omega), if_neg a, if_neg (by omega : ¬ 1024 < p1.length), decide_eq_false (by omega), if_neg (by simp)]
    have h0 := check_l0 p0 p1 hF p0.length 0 k (by omega) (by omega)
    rwa [show ((0 : Nat) : Int) = 0 from rfl, List.drop_zero] at h0
theorem rcheck_l1 : ∀ (m i k : Nat), i + m = p1.length → m + 7000 < k → saturateref41_Check.l1 k (i : Int) p0 p1 = some (chkRows p0.length (p1.drop i) i) := by
  have hr := hF.rows
  have hc := hF.costs
  intro m
  induction m with
  | zero =>
    intro i k hi hk
    obtain ⟨k, rfl, hk⟩ := fuel hk
    simp only [saturateref41_Check.l1]
    rw [if_neg (by omega), List.drop_of_length_le (by omega)]
    rfl
  | succ m ih =>
    intro i k hi hk
    obtain ⟨k, rfl, hk⟩ := fuel hk
    have hil : i < p1.length := by omega
    simp only [saturateref41_Check.l1]
    rw [if_pos (by omega), if_pos (by omega), row_eq _ _ (hF.coefs _ (rd43_mem hil)) p0 p1 k (by omega), Option.bind_some, drop43 hil, wrap_nat i (by omega)]
    unfold chkRows
    by_cases e : rowErr (rd_T43 p1 (i : Int)).f0 (rd_T43 p1 (i : Int)).f1 (p0.length : Int) = 0
    · rw [if_pos e, if_pos e, ih (i + 1) k (by omega) (by omega)]
    · rw [if_neg e, if_neg e]
theorem rcheck_l0 : ∀ (m i k : Nat), i + m = p0.length → m + 7100 < k → saturateref41_Check.l0 k (i : Int) p0 p1 = some ((chkCosts (p0.drop i) i).getD (chkRows p0.length p1 0)) := by
  have hr := hF.rows
  have hc := hF.costs
  intro m
  induction m with
  | zero =>
    intro i k hi hk
    obtain ⟨k, rfl, hk⟩ := fuel hk
    have h1 := rcheck_l1 p0 p1 hF p1.length 0 k (by omega) (by omega)
    rw [show ((0 : Nat) : Int) = 0 from rfl, List.drop_zero] at h1
    simp only [saturateref41_Check.l0]
    rw [if_neg (by omega), List.drop_of_length_le (by omega), h1]
    rfl
  | succ m ih =>
    intro i k hi hk
    obtain ⟨k, rfl, hk⟩ := fuel hk
    have hil : i < p0.length := by omega
    simp only [saturateref41_Check.l0]
    rw [if_pos (by omega), if_pos (by omega), dropI hil, wrap_nat i (by omega), ih (i + 1) k (by omega) (by omega)]
    simp only [chkCosts]
    by_cases a1 : rd p0 (i : Int) < 0
    · rw [if_pos a1, if_pos a1]; rfl
    · rw [if_neg a1, if_neg a1]
      by_cases a2 : 1099511627776 < rd p0 (i : Int)
      · rw [if_pos a2, if_pos a2]; rfl
      · rw [if_neg a2, if_neg a2]
theorem rcheck_eq (k : Nat) (hk : 8000 ≤ k) : saturateref41_Check.f k p0 p1 = some (chk p0 p1) := by
  have hr := hF.rows
  have hc := hF.costs
  obtain ⟨k, rfl, hk⟩ := fuel (show 7999 < k by omega)
  unfold saturateref41_Check.f chk
  simp only [saturateref41_Check.j0]
  by_cases a : 64 < p0.length
  · rw [if_pos (by omega), if_pos trivial, if_pos a]
  · rw [if_neg (by omega), if_neg a, if_neg (by omega : ¬ 1024 < p1.length), decide_eq_false (by omega), if_neg (by simp)]
    have h0 := rcheck_l0 p0 p1 hF p0.length 0 k (by omega) (by omega)
    rwa [show ((0 : Nat) : Int) = 0 from rfl, List.drop_zero] at h0
end

theorem row_ok {cs : List S45} {least vars : Int} (h : rowErr cs least vars = 0) : (∀ c ∈ cs, ¬ badC vars c) ∧ ¬ (least < -1099511627776 ∨ 1099511627776 < least) ∧ dupF cs [] = false ∧ cs.length ≤ 64 := by
  unfold rowErr at h
  by_cases hl : 64 < cs.length
  · rw [if_pos hl] at h; cases h
  rw [if_neg hl, scan_eq] at h
  by_cases hb : ∃ c ∈ cs, badC vars c
  · rw [if_pos hb] at h; cases h
  rw [if_neg hb] at h
  simp only [Bool.false_or] at h
  by_cases hr : least < -1099511627776 ∨ 1099511627776 < least
  · rw [if_pos hr] at h; cases h
  rw [if_neg hr] at h
  refine ⟨fun c hc hb2 => hb ⟨c, hc, hb2⟩, hr, ?_, by omega⟩
  cases hd : dupF cs []
  · rfl
  · rw [hd] at h; cases h
theorem chkRows_ok {vars : Int} : ∀ {l : List S43} {i : Nat}, (chkRows vars l i).2 = 0 → ∀ r ∈ l, rowErr r.f0 r.f1 vars = 0
  | [], _, _, r, hr => by cases hr
  | r0 :: rs, i, h, r, hr => by
    unfold chkRows at h
    by_cases e : rowErr r0.f0 r0.f1 vars = 0
    · rw [if_pos e] at h
      rcases List.mem_cons.1 hr with rfl | hr
      · exact e
      · exact chkRows_ok h r hr
    · rw [if_neg e] at h; exact absurd h e
theorem chkCosts_ok : ∀ {l : List Int} {i : Nat}, chkCosts l i = none → ∀ c ∈ l, 0 ≤ c ∧ c ≤ 1099511627776
  | [], _, _, c, hc => by cases hc
  | c0 :: cs, i, h, c, hc => by
    unfold chkCosts at h
    by_cases a : c0 < 0
    · rw [if_pos a] at h; cases h
    rw [if_neg a] at h
    by_cases b : 1099511627776 < c0
    · rw [if_pos b] at h; cases h
    rw [if_neg b] at h
    rcases List.mem_cons.1 hc with rfl | hc
    · omega
    · exact chkCosts_ok h c hc
theorem chkCosts_bad : ∀ {l : List Int} {i : Nat} {e : Int × Int}, chkCosts l i = some e → e.2 = 2
  | [], _, e, h => by cases h
  | c0 :: cs, i, e, h => by
    unfold chkCosts at h
    by_cases a : c0 < 0
    · rw [if_pos a] at h; cases h; rfl
    rw [if_neg a] at h
    by_cases b : 1099511627776 < c0
    · rw [if_pos b] at h; cases h; rfl
    rw [if_neg b] at h
    exact chkCosts_bad h
/-- A valid problem. -/
structure Valid (p0 : List Int) (p1 : List S43) : Prop where
  costs : ∀ c ∈ p0, 0 ≤ c ∧ c ≤ 1099511627776
  rows : ∀ r ∈ p1, rowErr r.f0 r.f1 p0.length = 0
  len : p0.length ≤ 64
theorem chk_ok {p0 : List Int} {p1 : List S43} (h : (chk p0 p1).2 = 0) : Valid p0 p1 := by
  unfold chk at h
  by_cases a : 64 < p0.length
  · rw [if_pos a] at h; cases h
  rw [if_neg a] at h
  by_cases b : 1024 < p1.length
  · rw [if_pos b] at h; cases h
  rw [if_neg b] at h
  cases hc : chkCosts p0 0 with
  | none => rw [hc] at h; exact ⟨chkCosts_ok hc, chkRows_ok h, by omega⟩
  | some e => rw [hc] at h; have := chkCosts_bad hc; simp only [Option.getD_some] at h; omega
theorem Valid.var {p0 : List Int} {p1 : List S43} (h : Valid p0 p1) {r : S43} (hr : r ∈ p1) {c : S45} (hc : c ∈ r.f0) : 0 ≤ c.f0 ∧ c.f0 < p0.length ∧ -1048576 ≤ c.f1 ∧ c.f1 ≤ 1048576 ∧ c.f1 ≠ 0 := by
  have := (row_ok (h.rows r hr)).1 c hc
  simp only [badC, not_or] at this
  omega
theorem rd45_mem {L : List S45} {i : Nat} (h : i < L.length) : rd_T45 L (i : Int) ∈ L := by
  have e : rd_T45 L (i : Int) = L[i] := by simp [rd_T45, List.getD_eq_getElem?_getD, List.getElem?_eq_getElem h]
  rw [e]; exact List.getElem_mem h
/-! ### what the laws share -/
theorem lives_eq (k : Nat) (hk : 200 ≤ k) : saturatelaw41_lives.f k = some true := at_rounds (fun k => saturatelaw41_lives.mono k) hk saturatelaw41_lives.at
theorem few_l0 (n : Nat) (p0 : List Int) (p1 : List S43) (h0 : p0.length ≤ n) (h1 : p1.length ≤ 30) : ∀ (m i k : Nat), i + m = p1.length → m < k → (∀ r ∈ p1.take i, r.f0.length ≤ 70) →
    ∃ b, saturatelaw41_few.l0 k (i : Int) p0 p1 = some b ∧ (b = true → Few n p0 p1) := by
  intro m
  induction m with
  | zero =>
    intro i k hi hk hq
    obtain ⟨k, rfl, hk⟩ := fuel hk
    simp only [saturatelaw41_few.l0]
    rw [if_neg (by omega)]
    rw [List.take_of_length_le (by omega)] at hq
    exact ⟨true, rfl, fun _ => ⟨h0, by omega, hq⟩⟩
  | succ m ih =>
    intro i k hi hk hq
    obtain ⟨k, rfl, hk⟩ := fuel hk
    have hil : i < p1.length := by omega
    have e : rd_T43 p1 (i : Int) = p1[i] := by simp [rd_T43, List.getD_eq_getElem?_getD, List.getElem?_eq_getElem hil]
    simp only [saturatelaw41_few.l0]
    rw [if_pos (by omega), if_pos (by omega), wrap_nat i (by omega)]
    by_cases h : 70 < (rd_T43 p1 (i : Int)).f0.length
    · rw [if_pos (by omega)]; exact ⟨false, rfl, fun h => by cases h⟩
    · rw [if_neg (by omega)]
      exact ih (i + 1) k (by omega) (by omega) (fun r hr => by
        rw [List.take_succ_eq_append_getElem hil] at hr
        rcases List.mem_append.1 hr with hr | hr
        · exact hq r hr
        · have : r = rd_T43 p1 (i : Int) := by rw [e]; simpa using hr
          rw [this]; omega)
/-- few tells something, and 'true' only of few. -/
theorem few_eq (n : Nat) (hn : n ≤ 70) (p0 : List Int) (p1 : List S43) (k : Nat) (hk : 100 ≤ k) : ∃ b, saturatelaw41_few.f k p0 p1 (n : Int) = some b ∧ (b = true → Few n p0 p1) := by
  obtain ⟨k, rfl, hk⟩ := fuel (show 99 < k by omega)
  unfold saturatelaw41_few.f
  simp only [saturatelaw41_few.j0]
  by_cases h0 : p0.length ≤ n
  · rw [if_neg (by omega)]
    by_cases h1 : p1.length ≤ 30
    · rw [if_neg (by simp; omega)]
      have := few_l0 n p0 p1 h0 h1 p1.length 0 k (by omega) (by omega) (by simp)
      rwa [show ((0 : Nat) : Int) = 0 from rfl] at this
    · rw [if_pos (by simp; omega)]; exact ⟨false, rfl, fun h => by cases h⟩
  · rw [if_pos (by omega), if_pos trivial]; exact ⟨false, rfl, fun h => by cases h⟩
theorem Few.mono {n m : Nat} {p0 : List Int} {p1 : List S43} (h : Few n p0 p1) (hnm : n ≤ m) : Few m p0 p1 := ⟨Nat.le_trans h.costs hnm, h.rows, h.coefs⟩
end Go.Proofs.Ytiigmklolapckaa.Plain
