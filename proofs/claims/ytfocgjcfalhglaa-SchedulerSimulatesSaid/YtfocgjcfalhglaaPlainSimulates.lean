/- The function of SchedulerSimulates comes to true. No condition. -/
import Derived.Test.YtfocgjcfalhglaaQAllx11
import Derived.Test.YtfocgjcfalhglaaPlainSim
namespace Go.Proofs.Ytfocgjcfalhglaa.QAll
open Go.RowKit Go.Proofs.YtfocgjcfalhglaaW.PrintWords Go.Proofs.YtfocgjcfalhglaaW.PrintLast Go.Proofs.YtfocgjcfalhglaaW.PrintMore

theorem Sim_at (rest : List Int) : ∀ (k : Nat) (pre : List Int) (done : List Bool) (a b c d i : Int), done.length = pre.length → i = pre.length → (pre ++ rest).length ≤ 1000 → rest.length + 33 < k →
    saturateref32_Simulate.l0 k (pre ++ rest) done i a b c d = some (done ++ simF a b c d rest i) := by
  induction rest with
  | nil =>
    intro k pre done a b c d i h1 h2 h4 h5
    obtain ⟨k, rfl⟩ : ∃ m, k = m + 1 := ⟨k - 1, by omega⟩
    simp only [saturateref32_Simulate.l0]
    rw [if_neg (by simp; omega)]
    simp [simF]
  | cons f fs ih =>
    intro k pre done a b c d i h1 h2 h4 h5
    obtain ⟨k, rfl⟩ : ∃ m, k = m + 1 := ⟨k - 1, by omega⟩
    simp only [List.length_append, List.length_cons] at h4 h5
    have ew : wrap64 (i + 1) = i + 1 := by unfold wrap64; omega
    have el : pre ++ f :: fs = (pre ++ [f]) ++ fs := by simp
    simp only [saturateref32_Simulate.l0, Ready_eq, ready_eq, Option.bind_some, simF]
    rw [if_pos (by simp; omega), ew]
    by_cases hr : rdy d i = true
    · have hr' := hr
      unfold rdy at hr'
      rw [if_pos hr', if_pos hr, if_pos (by omega)]
      subst h2
      rw [rd_mid, take_eq k (by omega), tk_eq]
      simp only [Option.bind_some]
      rw [if_pos (by omega)]
      rw [el, ih k (pre ++ [f]) _ _ _ _ _ _ (by simp [h1]) (by simp) (by simp; omega) (by omega)]
      simp
    · have hr' := hr
      unfold rdy at hr'
      rw [if_neg hr', if_neg hr, if_pos (by omega), el, ih k (pre ++ [f]) (done ++ [false]) _ _ _ _ _ (by simp [h1]) (by simp [h2]) (by simp; omega) (by omega)]
      simp
theorem Sim_eq (k : Nat) (l : List Int) (h : l.length ≤ 1000) (hk : l.length + 33 < k) (a b c d : Int) : saturateref32_Simulate.f k a b c d l = some (simF a b c d l 0) := by
  unfold saturateref32_Simulate.f
  have := Sim_at l k [] [] a b c d 0 rfl rfl (by simpa using h) hk
  simpa using this
theorem same_at (x : List Bool) (hx : x.length ≤ 1000) (m : Nat) : ∀ (k : Nat) (i : Int), 0 ≤ i → i ≤ x.length → (x.length : Int) - i = m → m + 201 < k → saturatelaw32_SchedulerSimulates.l0 k x x i = some true := by
  induction m with
  | zero =>
    intro k i h0 h1 h2 h3
    obtain ⟨k, rfl⟩ : ∃ m, k = m + 1 := ⟨k - 1, by omega⟩
    simp only [saturatelaw32_SchedulerSimulates.l0]
    rw [if_neg (by omega), lives_some k (by omega)]; rfl
  | succ m ih =>
    intro k i h0 h1 h2 h3
    obtain ⟨k, rfl⟩ : ∃ m, k = m + 1 := ⟨k - 1, by omega⟩
    simp only [saturatelaw32_SchedulerSimulates.l0]
    rw [if_pos (by omega), if_pos h0, if_pos (by omega), if_neg (by simp), show wrap64 (i + 1) = i + 1 by unfold wrap64; omega]
    exact ih k _ (by omega) (by omega) (by omega) (by omega)
theorem Simulates (a b c d : Int) (l : List Int) : ∃ k, saturatelaw32_SchedulerSimulates.f k a b c d l = some true := by
  refine ⟨2000, ?_⟩
  unfold saturatelaw32_SchedulerSimulates.f
  split
  · rw [lives_some 2000 (by omega)]; rfl
  · rw [sim_eq 2000 l (by omega) (by omega), Sim_eq 2000 l (by omega) (by omega)]
    simp only [Option.bind_some, if_true]
    exact same_at _ (by rw [simF_length]; omega) _ 2000 0 (by omega) (by omega) rfl (by simp only [simF_length]; omega)

end Go.Proofs.Ytfocgjcfalhglaa.QAll
