/- What clamp, norm, Threshold, Take and Ready compute, in the program and in the reference. No condition. -/
import Derived.Test.YtfocgjcfalhglaaWMore
import Derived.Test.YtfocgjcfalhglaaQAllx5
import Derived.Test.YtfocgjcfalhglaaQAllx9
namespace Go.Proofs.Ytfocgjcfalhglaa.QAll
open Go.RowKit Go.Proofs.YtfocgjcfalhglaaW.PrintWords Go.Proofs.YtfocgjcfalhglaaW.PrintLast Go.Proofs.YtfocgjcfalhglaaW.PrintMore

theorem clamp_same (a b c : Int) (h : b ≤ c) : mx b (mn a c) = mn (mx a b) c := by
  unfold mx mn; repeat' split
  all_goals omega
theorem clamp_range (a b c : Int) (h : b ≤ c) : b ≤ mn (mx a b) c ∧ mn (mx a b) c ≤ c := by
  unfold mx mn; repeat' split
  all_goals omega
/-- n * 2^t, at most 2^40 -/
def gr (n : Int) : Nat → Int
  | 0 => n
  | t + 1 => gr (mn (2 * n) 1099511627776) t
theorem gr_eq (t : Nat) : ∀ n : Int, 0 ≤ n → n ≤ 1099511627776 → gr n t = mn (n * 2 ^ t) 1099511627776 := by
  induction t with
  | zero => intro n h0 h1; simp only [gr]; unfold mn; split <;> omega
  | succ t ih =>
    intro n h0 h1
    simp only [gr]
    rw [ih _ (by unfold mn; split <;> omega) (by unfold mn; split <;> omega)]
    have hp : (1 : Int) ≤ 2 ^ t := Int.pow_pos (by omega) |> fun h => h
    have e : n * 2 ^ (t + 1) = (2 * n) * 2 ^ t := by rw [Int.pow_succ]; rw [Int.mul_comm (2 ^ t) 2, ← Int.mul_assoc, Int.mul_comm n 2]
    rw [e]
    unfold mn
    split
    · rename_i h
      have a1 : (1099511627776 : Int) * 1 ≤ 1099511627776 * 2 ^ t := Int.mul_le_mul_of_nonneg_left hp (by omega)
      have a2 : 1099511627776 * 2 ^ t ≤ (2 * n) * 2 ^ t := Int.mul_le_mul_of_nonneg_right (by omega) (by omega)
      have a3 : (1099511627776 : Int) * 1 < 2 * n * 1 := by omega
      have a4 : 2 * n * 1 ≤ 2 * n * 2 ^ t := Int.mul_le_mul_of_nonneg_left hp (by omega)
      split <;> split <;> omega
    · rfl
theorem shl_in (n t : Int) (h0 : 1 ≤ n) (h1 : n ≤ 65536) (t0 : 0 ≤ t) (t1 : t ≤ 30) : shl .i64 n t = n * 2 ^ t.toNat := by
  unfold shl
  have e : min t.toNat (IntKind.bits .i64) = t.toNat := by
    have : IntKind.bits .i64 = 64 := rfl
    omega
  rw [e]
  have hp : (2 : Int) ^ t.toNat ≤ 2 ^ 30 := by
    have h := Nat.pow_le_pow_right (show 0 < 2 by omega) (show t.toNat ≤ 30 by omega)
    exact_mod_cast h
  have hq : (0 : Int) < 2 ^ t.toNat := Int.pow_pos (by omega)
  have a1 : n * 2 ^ t.toNat ≤ 65536 * 2 ^ 30 := Int.le_trans (Int.mul_le_mul_of_nonneg_right h1 (by omega)) (Int.mul_le_mul_of_nonneg_left hp (by omega))
  have a0 : 0 ≤ n * 2 ^ t.toNat := Int.mul_nonneg (by omega) (by omega)
  rw [i64_w]
  unfold wrap64
  omega
theorem grown_at (x1 : Int) (h1 : x1 ≤ 30) (d : Nat) : ∀ (k : Nat) (x0 x5 : Int), 0 ≤ x5 → x5 ≤ x1 → x1 - x5 = d → d < k → 0 ≤ x0 → x0 ≤ 1099511627776 → saturateref32_grown.l0 k x0 x1 x5 = some (gr x0 d) := by
  induction d with
  | zero =>
    intro k x0 x5 a b c e f g
    obtain ⟨k, rfl⟩ : ∃ m, k = m + 1 := ⟨k - 1, by omega⟩
    simp only [saturateref32_grown.l0, gr]; rw [if_neg (by omega)]
  | succ d ih =>
    intro k x0 x5 a b c e f g
    obtain ⟨k, rfl⟩ : ∃ m, k = m + 1 := ⟨k - 1, by omega⟩
    simp only [saturateref32_grown.l0, gr]; rw [if_pos (by omega)]
    rw [show wrap64 (2 * x0) = 2 * x0 by unfold wrap64; omega, show wrap64 (x5 + 1) = x5 + 1 by unfold wrap64; omega]
    exact ih k _ _ (by omega) (by omega) (by omega) (by omega) (by unfold mn; split <;> omega) (by unfold mn; split <;> omega)
theorem grown_eq (k : Nat) (n t : Int) (hk : 31 < k) (h0 : 1 ≤ n) (h1 : n ≤ 65536) (t0 : 0 ≤ t) (t1 : t ≤ 30) : saturateref32_grown.f k n t = some (mn (shl .i64 n t) 1099511627776) := by
  unfold saturateref32_grown.f
  rw [grown_at t t1 t.toNat k n 0 (by omega) (by omega) (by omega) (by omega) (by omega) (by omega), gr_eq _ _ (by omega) (by omega), shl_in n t h0 h1 t0 t1]
theorem norm_eq (a b c d : Int) : scheduler_norm.f a b c d = some (mn (mx a 1) 65536, mn (mx b 1) 65536, mn (mx c 0) 30, mn (mx d 0) 4398046511104) := by
  simp only [scheduler_norm.f, scheduler_clamp.f, Option.bind_some]
  rw [clamp_same a 1 65536 (by omega), clamp_same b 1 65536 (by omega), clamp_same c 0 30 (by omega), clamp_same d 0 4398046511104 (by omega)]
theorem Norm_eq (a b c d : Int) : saturateref32_Norm.f a b c d = some (mn (mx a 1) 65536, mn (mx b 1) 65536, mn (mx c 0) 30, mn (mx d 0) 4398046511104) := by
  simp only [saturateref32_Norm.f, saturateref32_clamp.f, Option.bind_some]
theorem thr_eq (a b c d : Int) : scheduler_Threshold.f a b c d = some (mn (shl .i64 (mn (mx a 1) 65536) (mn (mx c 0) 30)) 1099511627776) := by
  simp only [scheduler_Threshold.f, norm_eq, Option.bind_some]
  rw [if_pos (clamp_range c 0 30 (by omega)).1]
theorem Thr_eq (k : Nat) (hk : 31 < k) (a b c d : Int) : saturateref32_Threshold.f k a b c d = some (mn (shl .i64 (mn (mx a 1) 65536) (mn (mx c 0) 30)) 1099511627776) := by
  simp only [saturateref32_Threshold.f, Norm_eq, Option.bind_some]
  have h1 := clamp_range a 1 65536 (by omega)
  have h2 := clamp_range c 0 30 (by omega)
  rw [grown_eq k _ _ hk h1.1 h1.2 h2.1 h2.2]; rfl
theorem take_eq (k : Nat) (hk : 31 < k) (a b c d i f : Int) : saturateref32_Take.f k a b c d i f = scheduler_Take.f a b c d i f := by
  simp only [saturateref32_Take.f, scheduler_Take.f, Norm_eq, norm_eq, Option.bind_some, saturateref32_clamp.f, scheduler_clamp.f]
  have h1 := clamp_range b 1 65536 (by omega)
  have h2 := clamp_range c 0 30 (by omega)
  rw [Thr_eq k hk, thr_eq, clamp_same f 0 1099511627776 (by omega), clamp_same i 0 1099511627776 (by omega), grown_eq k _ _ hk h1.1 h1.2 h2.1 h2.2]
  simp only [Option.bind_some]
  split
  · rfl
  · rw [if_pos h2.1, clamp_same _ 0 4398046511104 (by omega)]
theorem take_some (a b c d i f : Int) : ∃ r, scheduler_Take.f a b c d i f = some r := by
  simp only [scheduler_Take.f, norm_eq, thr_eq, Option.bind_some, scheduler_clamp.f]
  have h2 := clamp_range c 0 30 (by omega)
  split
  · exact ⟨_, rfl⟩
  · rw [if_pos h2.1]; exact ⟨_, rfl⟩
theorem lives_some (k : Nat) (hk : 200 ≤ k) : saturatelaw32_lives.f k = some true := at_rounds (fun k => saturatelaw32_lives.mono k) hk saturatelaw32_lives.at
/-! ### Bans -/
theorem ready_eq (a b c d i : Int) : scheduler_Ready.f a b c d i = some (decide (mn (mx i 0) 1099511627776 ≥ mn (mx d 0) 4398046511104)) := by
  simp only [scheduler_Ready.f, scheduler_clamp.f, norm_eq, Option.bind_some]
  rw [clamp_same i 0 1099511627776 (by omega)]
theorem Ready_eq (a b c d i : Int) : saturateref32_Ready.f a b c d i = scheduler_Ready.f a b c d i := by
  rw [ready_eq]
  simp only [saturateref32_Ready.f, saturateref32_clamp.f, Norm_eq, Option.bind_some]
/-- The ban's length, and the threshold. -/
def bl (n t : Int) : Int := mn (shl .i64 n t) 1099511627776
theorem bl_range (n t : Int) (h0 : 1 ≤ n) (h1 : n ≤ 65536) (t0 : 0 ≤ t) (t1 : t ≤ 30) : 1 ≤ bl n t ∧ bl n t ≤ 1099511627776 := by
  unfold bl
  rw [shl_in n t h0 h1 t0 t1]
  have hq : (0 : Int) < 2 ^ t.toNat := Int.pow_pos (by omega)
  have a1 : 1 * 1 ≤ n * 2 ^ t.toNat := Int.le_trans (Int.mul_le_mul_of_nonneg_right h0 (by omega)) (Int.mul_le_mul_of_nonneg_left (by omega) (by omega))
  unfold mn; split <;> omega
theorem bl_mono (n t u : Int) (h0 : 1 ≤ n) (h1 : n ≤ 65536) (t0 : 0 ≤ t) (tu : t ≤ u) (u1 : u ≤ 30) : bl n t ≤ bl n u := by
  unfold bl
  rw [shl_in n t h0 h1 t0 (by omega), shl_in n u h0 h1 (by omega) u1]
  have hp : (2 : Int) ^ t.toNat ≤ 2 ^ u.toNat := by
    have h := Nat.pow_le_pow_right (show 0 < 2 by omega) (show t.toNat ≤ u.toNat by omega)
    exact_mod_cast h
  have a1 : n * 2 ^ t.toNat ≤ n * 2 ^ u.toNat := Int.mul_le_mul_of_nonneg_left hp (by omega)
  unfold mn; split <;> split <;> omega
theorem clamp_idem (a b c : Int) (h0 : b ≤ a) (h1 : a ≤ c) : mn (mx a b) c = a := by
  unfold mx mn; repeat' split
  all_goals omega
/-- What Take returns. -/
def tk (a b c d i f : Int) : Int × Int × Int × Int × Bool :=
  if mn (mx f 0) 1099511627776 ≤ bl (mn (mx a 1) 65536) (mn (mx c 0) 30) then (mn (mx a 1) 65536, mn (mx b 1) 65536, mn (mx c 0) 30, mn (mx d 0) 4398046511104, true)
  else (mn (mx a 1) 65536, mn (mx b 1) 65536, mn (mn (mx c 0) 30 + 1) 30, mn (mx i 0) 1099511627776 + 1 + bl (mn (mx b 1) 65536) (mn (mx c 0) 30), false)
theorem tk_eq (a b c d i f : Int) : scheduler_Take.f a b c d i f = some (tk a b c d i f) := by
  simp only [scheduler_Take.f, norm_eq, thr_eq, Option.bind_some, scheduler_clamp.f, tk]
  have h1 := clamp_range b 1 65536 (by omega)
  have h2 := clamp_range c 0 30 (by omega)
  have h3 := clamp_range i 0 1099511627776 (by omega)
  rw [clamp_same f 0 1099511627776 (by omega), clamp_same i 0 1099511627776 (by omega)]
  have hb := bl_range _ _ h1.1 h1.2 h2.1 h2.2
  have h4 := clamp_range a 1 65536 (by omega)
  rw [clamp_idem _ 1 65536 h4.1 h4.2, clamp_idem _ 0 30 h2.1 h2.2]
  rw [if_pos h2.1]
  rw [show mn (shl .i64 (mn (mx b 1) 65536) (mn (mx c 0) 30)) 1099511627776 = bl (mn (mx b 1) 65536) (mn (mx c 0) 30) from rfl]
  rw [show mn (shl .i64 (mn (mx a 1) 65536) (mn (mx c 0) 30)) 1099511627776 = bl (mn (mx a 1) 65536) (mn (mx c 0) 30) from rfl]
  split
  · rfl
  · generalize bl (mn (mx b 1) 65536) (mn (mx c 0) 30) = B at *
    generalize mn (mx i 0) 1099511627776 = I at *
    generalize mn (mx c 0) 30 = C at *
    have e1 : wrap64 (wrap64 (I + 1) + B) = I + 1 + B := by unfold wrap64; omega
    have e2 : wrap64 (C + 1) = C + 1 := by unfold wrap64; omega
    have e3 : mx 0 (mn (I + 1 + B) 4398046511104) = I + 1 + B := by unfold mx mn; split <;> split <;> omega
    rw [e1, e2, e3]
theorem thr_bl (a b c d : Int) : scheduler_Threshold.f a b c d = some (bl (mn (mx a 1) 65536) (mn (mx c 0) 30)) := thr_eq a b c d

end Go.Proofs.Ytfocgjcfalhglaa.QAll
