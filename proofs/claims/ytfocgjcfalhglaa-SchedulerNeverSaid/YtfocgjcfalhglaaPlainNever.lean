/- The function of SchedulerNever comes to true. No condition. -/
import Derived.Test.YtfocgjcfalhglaaQAllx8
import Derived.Test.YtfocgjcfalhglaaPlainSim
import Derived.Test.YtfocgjcfalhglaaPlainNew
namespace Go.Proofs.Ytfocgjcfalhglaa.QAll
open Go.RowKit Go.Proofs.YtfocgjcfalhglaaW.PrintWords Go.Proofs.YtfocgjcfalhglaaW.PrintLast Go.Proofs.YtfocgjcfalhglaaW.PrintMore

theorem rd_mid' (pre rest : List Int) (f : Int) (i : Int) (h : i = pre.length) : rd (pre ++ f :: rest) i = f := by subst h; exact rd_mid _ _ _
theorem sim_few (s : S26) (h0 : 1 ≤ s.f0 ∧ s.f0 ≤ 65536) (h1 : 1 ≤ s.f1 ∧ s.f1 ≤ 65536) (h2 : s.f2 = 0) (h3 : s.f3 = 0) (l : List Int) : ∀ i : Int, 0 ≤ i → (∀ x ∈ l, x ≤ s.f0) → simF s.f0 s.f1 s.f2 s.f3 l i = List.replicate l.length true := by
  induction l with
  | nil => intros; rfl
  | cons f fs ih =>
    intro i hi hl
    have hr : rdy s.f3 i = true := by
      rw [h3]; unfold rdy
      refine decide_eq_true ?_
      have := clamp_range i 0 1099511627776 (by omega)
      rw [clamp_idem 0 0 4398046511104 (by omega) (by omega)]; omega
    have hf := hl f (by simp)
    have ht : tk s.f0 s.f1 s.f2 s.f3 i f = (s.f0, s.f1, s.f2, s.f3, true) := by
      unfold tk
      rw [clamp_idem s.f0 1 65536 h0.1 h0.2, clamp_idem s.f1 1 65536 h1.1 h1.2, clamp_idem s.f2 0 30 (by omega) (by omega), clamp_idem s.f3 0 4398046511104 (by omega) (by omega)]
      rw [if_pos]
      rw [h2]
      unfold bl
      rw [shl_in s.f0 0 h0.1 h0.2 (by omega) (by omega)]
      simp only [Int.toNat_zero, Int.pow_zero, Int.mul_one]
      unfold mn mx; repeat' split
      all_goals omega
    simp only [simF]
    rw [if_pos hr, ht]
    simp only [List.length_cons, List.replicate_succ]
    rw [ih (i + 1) (by omega) (fun x hx => hl x (by simp [hx]))]
theorem never_at (l : List Int) (s : S26) (hl : l.length ≤ 1000) (m : Nat) : ∀ (k j : Nat) (acc : List Int), j + m = l.length → m < k → acc = (l.take j).map (fun x => mn x s.f0) →
    saturatelaw32_SchedulerNever.l0 k l [s] acc (j : Int) = (scheduler_Simulate.f (k - m - 1) s.f0 s.f1 s.f2 s.f3 (l.map (fun x => mn x s.f0))).bind fun t => saturatelaw32_SchedulerNever.l1 (k - m - 1) (l.map (fun x => mn x s.f0)) t 0 := by
  induction m with
  | zero =>
    intro k j acc h hk ha
    obtain ⟨k, rfl⟩ : ∃ m, k = m + 1 := ⟨k - 1, by omega⟩
    simp only [saturatelaw32_SchedulerNever.l0]
    rw [if_neg (by omega), if_pos (by simp)]
    rw [List.take_of_length_le (by omega)] at ha
    rw [ha]
    rfl
  | succ m ih =>
    intro k j acc h hk ha
    obtain ⟨k, rfl⟩ : ∃ m, k = m + 1 := ⟨k - 1, by omega⟩
    simp only [saturatelaw32_SchedulerNever.l0]
    have hal : acc.length = j := by rw [ha]; simp; omega
    rw [if_pos (by omega), if_pos (by omega), if_pos (by simp), if_pos (by omega), show wrap64 ((j : Int) + 1) = ((j + 1 : Nat) : Int) by unfold wrap64; omega]
    rw [ih k (j + 1) _ (by omega) (by omega) ?_]
    · rw [show k + 1 - (m + 1) - 1 = k - m - 1 by omega]
    · rw [ha, List.take_succ_eq_append_getElem (by omega)]
      simp only [List.map_append, List.map_cons, List.map_nil]
      congr 1
      have e1 : rd l (j : Int) = l[j]'(by omega) := by simp [rd, List.getD_eq_getElem?_getD, List.getElem?_eq_getElem (show j < l.length by omega)]
      rw [e1]; rfl
theorem never_end (f : List Int) (n : Nat) (hn : n = f.length) (hl : n ≤ 1000) (m : Nat) : ∀ (k : Nat) (i : Int), 0 ≤ i → i ≤ n → (n : Int) - i = m → m + 201 < k → saturatelaw32_SchedulerNever.l1 k f (List.replicate n true) i = some true := by
  induction m with
  | zero =>
    intro k i h0 h1 h2 h3
    obtain ⟨k, rfl⟩ : ∃ m, k = m + 1 := ⟨k - 1, by omega⟩
    simp only [saturatelaw32_SchedulerNever.l1, List.length_replicate]
    rw [if_neg (by omega), if_pos (by rw [hn]), lives_some k (by omega)]; rfl
  | succ m ih =>
    intro k i h0 h1 h2 h3
    obtain ⟨k, rfl⟩ : ∃ m, k = m + 1 := ⟨k - 1, by omega⟩
    simp only [saturatelaw32_SchedulerNever.l1, List.length_replicate]
    rw [if_pos (by omega), if_pos h0, if_pos, show wrap64 (i + 1) = i + 1 by unfold wrap64; omega]
    · exact ih k _ (by omega) (by omega) (by omega) (by omega)
    · simp only [rdOf, List.getD_eq_getElem?_getD]
      rw [List.getElem?_replicate, if_pos (by omega)]; rfl
theorem Never (a0 a1 : Int) (l : List Int) : ∃ k, saturatelaw32_SchedulerNever.f k a0 a1 l = some true := by
  obtain ⟨K, hK⟩ : ∃ K : Nat, K = 5000 := ⟨_, rfl⟩
  refine ⟨K, ?_⟩
  unfold saturatelaw32_SchedulerNever.f
  split
  · rw [lives_some K (by omega)]; rfl
  · rename_i hle
    rw [new_eq K 1 a0 a1 (by omega)]
    rw [show (mn (mx 1 0) 1024).toNat = 1 by simp [mx, mn]]
    simp only [Option.bind_some, List.replicate_one, List.length_singleton]
    rw [if_pos (by rfl)]
    have hL := clamp_range a0 1 65536 (by omega)
    have hB := clamp_range a1 1 65536 (by omega)
    have := never_at l (fresh a0 a1) (by omega) l.length K 0 [] (by omega) (by omega) (by simp)
    rw [show ((0 : Nat) : Int) = 0 from rfl] at this
    rw [this, sim_eq _ _ (by simp; omega) (by simp; omega)]
    simp only [Option.bind_some]
    rw [sim_few (fresh a0 a1) hL hB rfl rfl _ 0 (by omega) (by
      intro x hx
      obtain ⟨y, _, rfl⟩ := List.mem_map.1 hx
      unfold mn; split <;> omega)]
    exact never_end _ _ (by simp) (by simp; omega) (l.map (fun x => mn x (fresh a0 a1).f0)).length _ 0 (by omega) (by omega) (by simp) (by simp; omega)

end Go.Proofs.Ytfocgjcfalhglaa.QAll
