/- What a valid problem is, and what the laws share, in plain lists. Condition: few variables, rows and coefficients. -/
import Derived.Test.YtiigmklolapckaaPlain1
import Derived.Test.YtiigmklolapckaaQAllx1
import Derived.Test.YtiigmklolapckaaQAllx5
namespace Go.Proofs.Ytiigmklolapckaa.Plain
open Go.RowKit Go.Proofs.YtiigmklolapckaaW.PrintWords Go.Proofs.YtiigmklolapckaaW.PrintLast Go.Proofs.YtiigmklolapckaaW.PrintMore Go.Proofs.Ytiigmklolapckaa.QAll
set_option linter.unusedVariables false

theorem row_ok {cs : List S45} {least vars : Int} (h : rowErr cs least vars = 0) : (∀ c ∈ cs, ¬ badC vars c) ∧ ¬ (least < -1099511627776 ∨ 1099511627776 < least) ∧ dupF cs [] = false ∧ cs.length ≤ 64 := by
  unfold rowErr at h
  by_cases hl : 64 < cs.length
  · rw [if_pos hl] at h; cases h
  rw [if_neg hl, scan_eq] at h
  by_cases hb : ∃ c ∈ cs, badC vars c
  · rw [if_pos hb] at h; cases h
  rw [if_neg hb] at h
  simp only [Bool.false_or] at h
  by_cases hr : least < -1099511627776 ∨ 1099511627776 < least
  · rw [if_pos hr] at h; cases h
  rw [if_neg hr] at h
  refine ⟨fun c hc hb2 => hb ⟨c, hc, hb2⟩, hr, ?_, by omega⟩
  cases hd : dupF cs []
  · rfl
  · rw [hd] at h; cases h
theorem chkRows_ok {vars : Int} : ∀ {l : List S43} {i : Nat}, (chkRows vars l i).2 = 0 → ∀ r ∈ l, rowErr r.f0 r.f1 vars = 0
  | [], _, _, r, hr => by cases hr
  | r0 :: rs, i, h, r, hr => by
    unfold chkRows at h
    by_cases e : rowErr r0.f0 r0.f1 vars = 0
    · rw [if_pos e] at h
      rcases List.mem_cons.1 hr with rfl | hr
      · exact e
      · exact chkRows_ok h r hr
    · rw [if_neg e] at h; exact absurd h e
theorem chkCosts_ok : ∀ {l : List Int} {i : Nat}, chkCosts l i = none → ∀ c ∈ l, 0 ≤ c ∧ c ≤ 1099511627776
  | [], _, _, c, hc => by cases hc
  | c0 :: cs, i, h, c, hc => by
    unfold chkCosts at h
    by_cases a : c0 < 0
    · rw [if_pos a] at h; cases h
    rw [if_neg a] at h
    by_cases b : 1099511627776 < c0
    · rw [if_pos b] at h; cases h
    rw [if_neg b] at h
    rcases List.mem_cons.1 hc with rfl | hc
    · omega
    · exact chkCosts_ok h c hc
theorem chkCosts_bad : ∀ {l : List Int} {i : Nat} {e : Int × Int}, chkCosts l i = some e → e.2 = 2
  | [], _, e, h => by cases h
  | c0 :: cs, i, e, h => by
    unfold chkCosts at h
    by_cases a : c0 < 0
    · rw [if_pos a] at h; cases h; rfl
    rw [if_neg a] at h
    by_cases b : 1099511627776 < c0
    · rw [if_pos b] at h; cases h; rfl
    rw [if_neg b] at h
    exact chkCosts_bad h
/-- A valid problem. -/
structure Valid (p0 : List Int) (p1 : List S43) : Prop where
  costs : ∀ c ∈ p0, 0 ≤ c ∧ c ≤ 1099511627776
  rows : ∀ r ∈ p1, rowErr r.f0 r.f1 p0.length = 0
  len : p0.length ≤ 64
theorem chk_ok {p0 : List Int} {p1 : List S43} (h : (chk p0 p1).2 = 0) : Valid p0 p1 := by
  unfold chk at h
  by_cases a : 64 < p0.length
  · rw [if_pos a] at h; cases h
  rw [if_neg a] at h
  by_cases b : 1024 < p1.length
  · rw [if_pos b] at h; cases h
  rw [if_neg b] at h
  cases hc : chkCosts p0 0 with
  | none => rw [hc] at h; exact ⟨chkCosts_ok hc, chkRows_ok h, by omega⟩
  | some e => rw [hc] at h; have := chkCosts_bad hc; simp only [Option.getD_some] at h; omega
theorem Valid.var {p0 : List Int} {p1 : List S43} (h : Valid p0 p1) {r : S43} (hr : r ∈ p1) {c : S45} (hc : c ∈ r.f0) : 0 ≤ c.f0 ∧ c.f0 < p0.length ∧ -1048576 ≤ c.f1 ∧ c.f1 ≤ 1048576 ∧ c.f1 ≠ 0 := by
  have := (row_ok (h.rows r hr)).1 c hc
  simp only [badC, not_or] at this
  omega
theorem rd45_mem {L : List S45} {i : Nat} (h : i < L.length) : rd_T45 L (i : Int) ∈ L := by
  have e : rd_T45 L (i : Int) = L[i] := by simp [rd_T45, List.getD_eq_getElem?_getD, List.getElem?_eq_getElem h]
  rw [e]; exact List.getElem_mem h
/-! ### what the laws share -/
theorem lives_eq (k : Nat) (hk : 200 ≤ k) : saturatelaw41_lives.f k = some true := at_rounds (fun k => saturatelaw41_lives.mono k) hk saturatelaw41_lives.at
theorem few_l0 (n : Nat) (p0 : List Int) (p1 : List S43) (h0 : p0.length ≤ n) (h1 : p1.length ≤ 30) : ∀ (m i k : Nat), i + m = p1.length → m < k → (∀ r ∈ p1.take i, r.f0.length ≤ 70) →
    ∃ b, saturatelaw41_few.l0 k (i : Int) p0 p1 = some b ∧ (b = true → Few n p0 p1) := by
  intro m
  induction m with
  | zero =>
    intro i k hi hk hq
    obtain ⟨k, rfl, hk⟩ := fuel hk
    simp only [saturatelaw41_few.l0]
    rw [if_neg (by omega)]
    rw [List.take_of_length_le (by omega)] at hq
    exact ⟨true, rfl, fun _ => ⟨h0, by omega, hq⟩⟩
  | succ m ih =>
    intro i k hi hk hq
    obtain ⟨k, rfl, hk⟩ := fuel hk
    have hil : i < p1.length := by omega
    have e : rd_T43 p1 (i : Int) = p1[i] := by simp [rd_T43, List.getD_eq_getElem?_getD, List.getElem?_eq_getElem hil]
    simp only [saturatelaw41_few.l0]
    rw [if_pos (by omega), if_pos (by omega), wrap_nat i (by omega)]
    by_cases h : 70 < (rd_T43 p1 (i : Int)).f0.length
    · rw [if_pos (by omega)]; exact ⟨false, rfl, fun h => by cases h⟩
    · rw [if_neg (by omega)]
      exact ih (i + 1) k (by omega) (by omega) (fun r hr => by
        rw [List.take_succ_eq_append_getElem hil] at hr
        rcases List.mem_append.1 hr with hr | hr
        · exact hq r hr
        · have : r = rd_T43 p1 (i : Int) := by rw [e]; simpa using hr
          rw [this]; omega)
/-- few tells something, and 'true' only of few. -/
theorem few_eq (n : Nat) (hn : n ≤ 70) (p0 : List Int) (p1 : List S43) (k : Nat) (hk : 100 ≤ k) : ∃ b, saturatelaw41_few.f k p0 p1 (n : Int) = some b ∧ (b = true → Few n p0 p1) := by
  obtain ⟨k, rfl, hk⟩ := fuel (show 99 < k by omega)
  unfold saturatelaw41_few.f
  simp only [saturatelaw41_few.j0]
  by_cases h0 : p0.length ≤ n
  · rw [if_neg (by omega)]
    by_cases h1 : p1.length ≤ 30
    · rw [if_neg (by simp; omega)]
      have := few_l0 n p0 p1 h0 h1 p1.length 0 k (by omega) (by omega) (by simp)
      rwa [show ((0 : Nat) : Int) = 0 from rfl] at this
    · rw [if_pos (by simp; omega)]; exact ⟨false, rfl, fun h => by cases h⟩
  · rw [if_pos (by omega), if_pos trivial]; exact ⟨false, rfl, fun h => by cases h⟩
theorem Few.mono {n m : Nat} {p0 : List Int} {p1 : List S43} (h : Few n p0 p1) (hnm : n ≤ m) : Few m p0 p1 := ⟨Nat.le_trans h.costs hnm, h.rows, h.coefs⟩
end Go.Proofs.Ytiigmklolapckaa.Plain
