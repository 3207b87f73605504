/- What New computes, in the program and in the reference. No condition. -/
import Derived.Test.YtfocgjcfalhglaaPlain
namespace Go.Proofs.Ytfocgjcfalhglaa.QAll
open Go.RowKit Go.Proofs.YtfocgjcfalhglaaW.PrintWords Go.Proofs.YtfocgjcfalhglaaW.PrintLast Go.Proofs.YtfocgjcfalhglaaW.PrintMore

/-! ### New, and Never -/
/-- A new state. -/
def fresh (a1 a2 : Int) : S26 := ⟨mn (mx a1 1) 65536, mn (mx a2 1) 65536, 0, 0⟩
theorem norm_fresh (a1 a2 : Int) : scheduler_norm.f a1 a2 0 0 = some ((fresh a1 a2).f0, (fresh a1 a2).f1, (fresh a1 a2).f2, (fresh a1 a2).f3) := by rw [norm_eq]; rfl
theorem Norm_fresh (a1 a2 : Int) : saturateref32_Norm.f a1 a2 0 0 = some ((fresh a1 a2).f0, (fresh a1 a2).f1, (fresh a1 a2).f2, (fresh a1 a2).f3) := by rw [Norm_eq]; rfl
theorem new_at (a1 a2 : Int) (n m : Nat) (hn : n ≤ 1024) : ∀ (k j : Nat), j + m = n → m < k →
    scheduler_New.l0 k a1 a2 (List.replicate j (fresh a1 a2) ++ List.replicate m z26) (n : Int) (j : Int) = some (List.replicate n (fresh a1 a2)) := by
  induction m with
  | zero =>
    intro k j h hk
    obtain ⟨k, rfl⟩ : ∃ m, k = m + 1 := ⟨k - 1, by omega⟩
    simp only [scheduler_New.l0]
    rw [if_neg (by omega)]
    obtain rfl : j = n := by omega
    simp
  | succ m ih =>
    intro k j h hk
    obtain ⟨k, rfl⟩ : ∃ m, k = m + 1 := ⟨k - 1, by omega⟩
    simp only [scheduler_New.l0]
    rw [if_pos (by omega), norm_fresh]
    simp only [Option.bind_some]
    rw [if_pos (by omega), if_pos (by simp; omega), show wrap64 ((j : Int) + 1) = ((j + 1 : Nat) : Int) by unfold wrap64; omega]
    have es : (List.replicate j (fresh a1 a2) ++ List.replicate (m + 1) z26).set (j : Int).toNat (⟨(fresh a1 a2).f0, (fresh a1 a2).f1, (fresh a1 a2).f2, (fresh a1 a2).f3⟩ : S26) = List.replicate (j + 1) (fresh a1 a2) ++ List.replicate m z26 := by
      rw [Int.toNat_natCast, List.set_append_right _ _ (by simp), List.length_replicate, Nat.sub_self, List.replicate_succ, List.set_cons_zero, List.replicate_succ', List.append_assoc]
      rfl
    rw [es]
    exact ih k (j + 1) (by omega) (by omega)
theorem new_eq (k : Nat) (a0 a1 a2 : Int) (hk : 1025 < k) : scheduler_New.f k a0 a1 a2 = some (List.replicate (mn (mx a0 0) 1024).toNat (fresh a1 a2)) := by
  have h := clamp_range a0 0 1024 (by omega)
  simp only [scheduler_New.f, scheduler_clamp.f, Option.bind_some]
  rw [clamp_same a0 0 1024 (by omega), if_pos h.1, if_pos (by omega), List.length_replicate]
  have := new_at a1 a2 (mn (mx a0 0) 1024).toNat (mn (mx a0 0) 1024).toNat (by omega) k 0 (by omega) (by omega)
  simpa using this
theorem New_at (a0 a1 a2 : Int) (m : Nat) : ∀ (k j : Nat), j + m = (mn (mx a0 0) 1024).toNat → m < k →
    saturateref32_New.l0 k a0 a1 a2 (List.replicate j (fresh a1 a2)) (j : Int) = some (List.replicate (mn (mx a0 0) 1024).toNat (fresh a1 a2)) := by
  have h := clamp_range a0 0 1024 (by omega)
  induction m with
  | zero =>
    intro k j e hk
    obtain ⟨k, rfl⟩ : ∃ m, k = m + 1 := ⟨k - 1, by omega⟩
    simp only [saturateref32_New.l0, saturateref32_clamp.f, Option.bind_some]
    rw [if_neg (by omega)]
    rw [show j = (mn (mx a0 0) 1024).toNat by omega]
  | succ m ih =>
    intro k j e hk
    obtain ⟨k, rfl⟩ : ∃ m, k = m + 1 := ⟨k - 1, by omega⟩
    simp only [saturateref32_New.l0, saturateref32_clamp.f, Option.bind_some]
    rw [if_pos (by omega), Norm_fresh]
    simp only [Option.bind_some]
    rw [if_pos (by simp; omega), show wrap64 ((j : Int) + 1) = ((j + 1 : Nat) : Int) by unfold wrap64; omega]
    have es : List.replicate j (fresh a1 a2) ++ [(⟨(fresh a1 a2).f0, (fresh a1 a2).f1, (fresh a1 a2).f2, (fresh a1 a2).f3⟩ : S26)] = List.replicate (j + 1) (fresh a1 a2) := by rw [List.replicate_succ']
    rw [es]
    exact ih k (j + 1) (by omega) (by omega)
theorem New_eq (k : Nat) (a0 a1 a2 : Int) (hk : 1025 < k) : saturateref32_New.f k a0 a1 a2 = some (List.replicate (mn (mx a0 0) 1024).toNat (fresh a1 a2)) := by
  have h := clamp_range a0 0 1024 (by omega)
  unfold saturateref32_New.f
  exact New_at a0 a1 a2 (mn (mx a0 0) 1024).toNat k 0 (by omega) (by omega)

end Go.Proofs.Ytfocgjcfalhglaa.QAll
