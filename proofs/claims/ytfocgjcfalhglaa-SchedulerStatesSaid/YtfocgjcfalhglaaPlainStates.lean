/- The function of SchedulerStates comes to true. No condition. -/
import Derived.Test.YtfocgjcfalhglaaQAllx10
import Derived.Test.YtfocgjcfalhglaaPlainNew
namespace Go.Proofs.Ytfocgjcfalhglaa.QAll
open Go.RowKit Go.Proofs.YtfocgjcfalhglaaW.PrintWords Go.Proofs.YtfocgjcfalhglaaW.PrintLast Go.Proofs.YtfocgjcfalhglaaW.PrintMore

/-! ### States -/
theorem banned_at (l : List S26) (x1 : Int) (hl : l.length ≤ 200) (m : Nat) : ∀ (k : Nat) (x5 x10 : Int), 0 ≤ x10 → x10 ≤ l.length → (l.length : Int) - x10 = m → m < k → 0 ≤ x5 → x5 ≤ x10 →
    ∃ r, scheduler_Banned.l0 k x1 x5 l (l.length : Int) x10 = some r ∧ saturateref32_Banned.l0 k l x1 x5 x10 = some r := by
  induction m with
  | zero =>
    intro k x5 x10 h0 h1 h2 h3 h4 h5
    obtain ⟨k, rfl⟩ : ∃ m, k = m + 1 := ⟨k - 1, by omega⟩
    simp only [scheduler_Banned.l0, saturateref32_Banned.l0]
    rw [if_neg (by omega), if_neg (by omega)]
    exact ⟨_, rfl, rfl⟩
  | succ m ih =>
    intro k x5 x10 h0 h1 h2 h3 h4 h5
    obtain ⟨k, rfl⟩ : ∃ m, k = m + 1 := ⟨k - 1, by omega⟩
    simp only [scheduler_Banned.l0, saturateref32_Banned.l0, Ready_eq, ready_eq, Option.bind_some]
    have c1 : x10 < (l.length : Int) := by omega
    simp only [if_pos c1, if_pos h0]
    rw [show wrap64 (x10 + 1) = x10 + 1 by unfold wrap64; omega, show wrap64 (x5 + 1) = x5 + 1 by unfold wrap64; omega]
    by_cases hr : decide (mn (mx x1 0) 1099511627776 ≥ mn (mx (rd_T26 l x10).f3 0) 4398046511104) = true
    · rw [if_pos hr, if_pos hr]
      exact ih k _ _ (by omega) (by omega) (by omega) (by omega) (by omega) (by omega)
    · rw [if_neg hr, if_neg hr]
      exact ih k _ _ (by omega) (by omega) (by omega) (by omega) (by omega) (by omega)

theorem states1_at (l : List S26) (x3 : Int) (hl : l.length ≤ 200) (m : Nat) : ∀ (k : Nat) (i : Int), 0 ≤ i → i ≤ l.length → (l.length : Int) - i = m → m + 500 < k → saturatelaw32_SchedulerStates.l1 k x3 l i = some true := by
  induction m with
  | zero =>
    intro k i h0 h1 h2 h3
    obtain ⟨k, rfl⟩ : ∃ m, k = m + 1 := ⟨k - 1, by omega⟩
    simp only [saturatelaw32_SchedulerStates.l1]
    rw [if_neg (by omega)]
    unfold scheduler_Banned.f saturateref32_Banned.f
    obtain ⟨r, e1, e2⟩ := banned_at l x3 hl l.length k 0 0 (by omega) (by omega) (by omega) (by omega) (by omega) (by omega)
    rw [e1, e2]
    simp only [Option.bind_some, if_true]
    rw [lives_some k (by omega)]; rfl
  | succ m ih =>
    intro k i h0 h1 h2 h3
    obtain ⟨k, rfl⟩ : ∃ m, k = m + 1 := ⟨k - 1, by omega⟩
    simp only [saturatelaw32_SchedulerStates.l1]
    rw [if_pos (by omega), if_pos h0, Ready_eq, ready_eq]
    simp only [Option.bind_some]
    rw [if_neg (by simp), Thr_eq k (by omega), thr_eq]
    simp only [Option.bind_some, if_true]
    rw [show wrap64 (i + 1) = i + 1 by unfold wrap64; omega]
    exact ih k _ (by omega) (by omega) (by omega) (by omega)
theorem states0_at (l : List S26) (x3 : Int) (hl : l.length ≤ 200) (s : List S26) (hs : s.length ≤ 1024) (m : Nat) : ∀ (k : Nat) (i : Int), 0 ≤ i → i ≤ s.length → (s.length : Int) - i = m → m + 800 < k → saturatelaw32_SchedulerStates.l0 k x3 l s s i = some true := by
  induction m with
  | zero =>
    intro k i h0 h1 h2 h3
    obtain ⟨k, rfl⟩ : ∃ m, k = m + 1 := ⟨k - 1, by omega⟩
    simp only [saturatelaw32_SchedulerStates.l0]
    rw [if_neg (by omega)]
    exact states1_at l x3 hl l.length k 0 (by omega) (by omega) (by omega) (by omega)
  | succ m ih =>
    intro k i h0 h1 h2 h3
    obtain ⟨k, rfl⟩ : ∃ m, k = m + 1 := ⟨k - 1, by omega⟩
    simp only [saturatelaw32_SchedulerStates.l0]
    rw [if_pos (by omega), if_pos h0, if_pos (by omega), if_neg (by simp), show wrap64 (i + 1) = i + 1 by unfold wrap64; omega]
    exact ih k _ (by omega) (by omega) (by omega) (by omega)
theorem States (a0 a1 a2 a3 : Int) (l : List S26) : ∃ k, saturatelaw32_SchedulerStates.f k a0 a1 a2 a3 l = some true := by
  obtain ⟨K, hK⟩ : ∃ K : Nat, K = 5000 := ⟨_, rfl⟩
  refine ⟨K, ?_⟩
  unfold saturatelaw32_SchedulerStates.f
  split
  · rw [lives_some K (by omega)]; rfl
  · have h := clamp_range a0 0 1024 (by omega)
    rw [new_eq K a0 a1 a2 (by omega), New_eq K a0 a1 a2 (by omega)]
    simp only [Option.bind_some, if_true]
    exact states0_at l a3 (by omega) _ (by simp; omega) (mn (mx a0 0) 1024).toNat K 0 (by omega) (by omega) (by simp) (by omega)

end Go.Proofs.Ytfocgjcfalhglaa.QAll
