/- The plain laws of the scheduler: what the printed functions compute, and that the five laws' functions come to true. No condition. -/
import Derived.Test.YtfocgjcfalhglaaWMore
import Derived.Test.YtfocgjcfalhglaaQAllx6
import Derived.Test.YtfocgjcfalhglaaQAllx7
import Derived.Test.YtfocgjcfalhglaaQAllx8
import Derived.Test.YtfocgjcfalhglaaQAllx9
import Derived.Test.YtfocgjcfalhglaaQAllx10
import Derived.Test.YtfocgjcfalhglaaQAllx11
namespace Go.Proofs.Ytfocgjcfalhglaa.QAll
open Go.RowKit Go.Proofs.YtfocgjcfalhglaaW.PrintWords Go.Proofs.YtfocgjcfalhglaaW.PrintLast Go.Proofs.YtfocgjcfalhglaaW.PrintMore

theorem clamp_same (a b c : Int) (h : b ≤ c) : mx b (mn a c) = mn (mx a b) c := by
  unfold mx mn; repeat' split
  all_goals omega
theorem clamp_range (a b c : Int) (h : b ≤ c) : b ≤ mn (mx a b) c ∧ mn (mx a b) c ≤ c := by
  unfold mx mn; repeat' split
  all_goals omega
/-- n * 2^t, at most 2^40 -/
def gr (n : Int) : Nat → Int
  | 0 => n
  | t + 1 => gr (mn (2 * n) 1099511627776) t
theorem gr_eq (t : Nat) : ∀ n : Int, 0 ≤ n → n ≤ 1099511627776 → gr n t = mn (n * 2 ^ t) 1099511627776 := by
  induction t with
  | zero => intro n h0 h1; simp only [gr]; unfold mn; split <;> omega
  | succ t ih =>
    intro n h0 h1
    simp only [gr]
    rw [ih _ (by unfold mn; split <;> omega) (by unfold mn; split <;> omega)]
    have hp : (1 : Int) ≤ 2 ^ t := Int.pow_pos (by omega) |> fun h => h
    have e : n * 2 ^ (t + 1) = (2 * n) * 2 ^ t := by rw [Int.pow_succ]; rw [Int.mul_comm (2 ^ t) 2, ← Int.mul_assoc, Int.mul_comm n 2]
    rw [e]
    unfold mn
    split
    · rename_i h
      have a1 : (1099511627776 : Int) * 1 ≤ 1099511627776 * 2 ^ t := Int.mul_le_mul_of_nonneg_left hp (by omega)
      have a2 : 1099511627776 * 2 ^ t ≤ (2 * n) * 2 ^ t := Int.mul_le_mul_of_nonneg_right (by omega) (by omega)
      have a3 : (1099511627776 : Int) * 1 < 2 * n * 1 := by omega
      have a4 : 2 * n * 1 ≤ 2 * n * 2 ^ t := Int.mul_le_mul_of_nonneg_left hp (by omega)
      split <;> split <;> omega
    · rfl
theorem shl_in (n t : Int) (h0 : 1 ≤ n) (h1 : n ≤ 65536) (t0 : 0 ≤ t) (t1 : t ≤ 30) : shl .i64 n t = n * 2 ^ t.toNat := by
  unfold shl
  have e : min t.toNat (IntKind.bits .i64) = t.toNat := by
    have : IntKind.bits .i64 = 64 := rfl
    omega
  rw [e]
  have hp : (2 : Int) ^ t.toNat ≤ 2 ^ 30 := by
    have h := Nat.pow_le_pow_right (show 0 < 2 by omega) (show t.toNat ≤ 30 by omega)
    exact_mod_cast h
  have hq : (0 : Int) < 2 ^ t.toNat := Int.pow_pos (by omega)
  have a1 : n * 2 ^ t.toNat ≤ 65536 * 2 ^ 30 := Int.le_trans (Int.mul_le_mul_of_nonneg_right h1 (by omega)) (Int.mul_le_mul_of_nonneg_left hp (by omega))
  have a0 : 0 ≤ n * 2 ^ t.toNat := Int.mul_nonneg (by omega) (by omega)
  rw [i64_w]
  unfold wrap64
  omega
theorem grown_at (x1 : Int) (h1 : x1 ≤ 30) (d : Nat) : ∀ (k : Nat) (x0 x5 : Int), 0 ≤ x5 → x5 ≤ x1 → x1 - x5 = d → d < k → 0 ≤ x0 → x0 ≤ 1099511627776 → saturateref32_grown.l0 k x0 x1 x5 = some (gr x0 d) := by
  induction d with
  | zero =>
    intro k x0 x5 a b c e f g
    obtain ⟨k, rfl⟩ : ∃ m, k = m + 1 := ⟨k - 1, by omega⟩
    simp only [saturateref32_grown.l0, gr]; rw [if_neg (by omega)]
  | succ d ih =>
    intro k x0 x5 a b c e f g
    obtain ⟨k, rfl⟩ : ∃ m, k = m + 1 := ⟨k - 1, by omega⟩
    simp only [saturateref32_grown.l0, gr]; rw [if_pos (by omega)]
    rw [show wrap64 (2 * x0) = 2 * x0 by unfold wrap64; omega, show wrap64 (x5 + 1) = x5 + 1 by unfold wrap64; omega]
    exact ih k _ _ (by omega) (by omega) (by omega) (by omega) (by unfold mn; split <;> omega) (by unfold mn; split <;> omega)
theorem grown_eq (k : Nat) (n t : Int) (hk : 31 < k) (h0 : 1 ≤ n) (h1 : n ≤ 65536) (t0 : 0 ≤ t) (t1 : t ≤ 30) : saturateref32_grown.f k n t = some (mn (shl .i64 n t) 1099511627776) := by
  unfold saturateref32_grown.f
  rw [grown_at t t1 t.toNat k n 0 (by omega) (by omega) (by omega) (by omega) (by omega) (by omega), gr_eq _ _ (by omega) (by omega), shl_in n t h0 h1 t0 t1]
theorem norm_eq (a b c d : Int) : scheduler_norm.f a b c d = some (mn (mx a 1) 65536, mn (mx b 1) 65536, mn (mx c 0) 30, mn (mx d 0) 4398046511104) := by
  simp only [scheduler_norm.f, scheduler_clamp.f, Option.bind_some]
  rw [clamp_same a 1 65536 (by omega), clamp_same b 1 65536 (by omega), clamp_same c 0 30 (by omega), clamp_same d 0 4398046511104 (by omega)]
theorem Norm_eq (a b c d : Int) : saturateref32_Norm.f a b c d = some (mn (mx a 1) 65536, mn (mx b 1) 65536, mn (mx c 0) 30, mn (mx d 0) 4398046511104) := by
  simp only [saturateref32_Norm.f, saturateref32_clamp.f, Option.bind_some]
theorem thr_eq (a b c d : Int) : scheduler_Threshold.f a b c d = some (mn (shl .i64 (mn (mx a 1) 65536) (mn (mx c 0) 30)) 1099511627776) := by
  simp only [scheduler_Threshold.f, norm_eq, Option.bind_some]
  rw [if_pos (clamp_range c 0 30 (by omega)).1]
theorem Thr_eq (k : Nat) (hk : 31 < k) (a b c d : Int) : saturateref32_Threshold.f k a b c d = some (mn (shl .i64 (mn (mx a 1) 65536) (mn (mx c 0) 30)) 1099511627776) := by
  simp only [saturateref32_Threshold.f, Norm_eq, Option.bind_some]
  have h1 := clamp_range a 1 65536 (by omega)
  have h2 := clamp_range c 0 30 (by omega)
  rw [grown_eq k _ _ hk h1.1 h1.2 h2.1 h2.2]; rfl
theorem take_eq (k : Nat) (hk : 31 < k) (a b c d i f : Int) : saturateref32_Take.f k a b c d i f = scheduler_Take.f a b c d i f := by
  simp only [saturateref32_Take.f, scheduler_Take.f, Norm_eq, norm_eq, Option.bind_some, saturateref32_clamp.f, scheduler_clamp.f]
  have h1 := clamp_range b 1 65536 (by omega)
  have h2 := clamp_range c 0 30 (by omega)
  rw [Thr_eq k hk, thr_eq, clamp_same f 0 1099511627776 (by omega), clamp_same i 0 1099511627776 (by omega), grown_eq k _ _ hk h1.1 h1.2 h2.1 h2.2]
  simp only [Option.bind_some]
  split
  · rfl
  · rw [if_pos h2.1, clamp_same _ 0 4398046511104 (by omega)]
theorem take_some (a b c d i f : Int) : ∃ r, scheduler_Take.f a b c d i f = some r := by
  simp only [scheduler_Take.f, norm_eq, thr_eq, Option.bind_some, scheduler_clamp.f]
  have h2 := clamp_range c 0 30 (by omega)
  split
  · exact ⟨_, rfl⟩
  · rw [if_pos h2.1]; exact ⟨_, rfl⟩
theorem lives_some (k : Nat) (hk : 200 ≤ k) : saturatelaw32_lives.f k = some true := at_rounds (fun k => saturatelaw32_lives.mono k) hk saturatelaw32_lives.at
theorem Takes (a b c d i f : Int) : ∃ k, saturatelaw32_SchedulerTakes.f k a b c d i f = some true := by
  refine ⟨200, ?_⟩
  obtain ⟨r, hr⟩ := take_some a b c d i f
  unfold saturatelaw32_SchedulerTakes.f
  rw [take_eq 200 (by omega), hr]
  simp only [Option.bind_some, beq_self_eq_true, Bool.and_self, if_true]
  rw [lives_some 200 (by omega)]; rfl

/-! ### Bans -/
theorem ready_eq (a b c d i : Int) : scheduler_Ready.f a b c d i = some (decide (mn (mx i 0) 1099511627776 ≥ mn (mx d 0) 4398046511104)) := by
  simp only [scheduler_Ready.f, scheduler_clamp.f, norm_eq, Option.bind_some]
  rw [clamp_same i 0 1099511627776 (by omega)]
theorem Ready_eq (a b c d i : Int) : saturateref32_Ready.f a b c d i = scheduler_Ready.f a b c d i := by
  rw [ready_eq]
  simp only [saturateref32_Ready.f, saturateref32_clamp.f, Norm_eq, Option.bind_some]
/-- The ban's length, and the threshold. -/
def bl (n t : Int) : Int := mn (shl .i64 n t) 1099511627776
theorem bl_range (n t : Int) (h0 : 1 ≤ n) (h1 : n ≤ 65536) (t0 : 0 ≤ t) (t1 : t ≤ 30) : 1 ≤ bl n t ∧ bl n t ≤ 1099511627776 := by
  unfold bl
  rw [shl_in n t h0 h1 t0 t1]
  have hq : (0 : Int) < 2 ^ t.toNat := Int.pow_pos (by omega)
  have a1 : 1 * 1 ≤ n * 2 ^ t.toNat := Int.le_trans (Int.mul_le_mul_of_nonneg_right h0 (by omega)) (Int.mul_le_mul_of_nonneg_left (by omega) (by omega))
  unfold mn; split <;> omega
theorem bl_mono (n t u : Int) (h0 : 1 ≤ n) (h1 : n ≤ 65536) (t0 : 0 ≤ t) (tu : t ≤ u) (u1 : u ≤ 30) : bl n t ≤ bl n u := by
  unfold bl
  rw [shl_in n t h0 h1 t0 (by omega), shl_in n u h0 h1 (by omega) u1]
  have hp : (2 : Int) ^ t.toNat ≤ 2 ^ u.toNat := by
    have h := Nat.pow_le_pow_right (show 0 < 2 by omega) (show t.toNat ≤ u.toNat by omega)
    exact_mod_cast h
  have a1 : n * 2 ^ t.toNat ≤ n * 2 ^ u.toNat := Int.mul_le_mul_of_nonneg_left hp (by omega)
  unfold mn; split <;> split <;> omega
theorem clamp_idem (a b c : Int) (h0 : b ≤ a) (h1 : a ≤ c) : mn (mx a b) c = a := by
  unfold mx mn; repeat' split
  all_goals omega
/-- What Take returns. -/
def tk (a b c d i f : Int) : Int × Int × Int × Int × Bool :=
  if mn (mx f 0) 1099511627776 ≤ bl (mn (mx a 1) 65536) (mn (mx c 0) 30) then (mn (mx a 1) 65536, mn (mx b 1) 65536, mn (mx c 0) 30, mn (mx d 0) 4398046511104, true)
  else (mn (mx a 1) 65536, mn (mx b 1) 65536, mn (mn (mx c 0) 30 + 1) 30, mn (mx i 0) 1099511627776 + 1 + bl (mn (mx b 1) 65536) (mn (mx c 0) 30), false)
theorem tk_eq (a b c d i f : Int) : scheduler_Take.f a b c d i f = some (tk a b c d i f) := by
  simp only [scheduler_Take.f, norm_eq, thr_eq, Option.bind_some, scheduler_clamp.f, tk]
  have h1 := clamp_range b 1 65536 (by omega)
  have h2 := clamp_range c 0 30 (by omega)
  have h3 := clamp_range i 0 1099511627776 (by omega)
  rw [clamp_same f 0 1099511627776 (by omega), clamp_same i 0 1099511627776 (by omega)]
  have hb := bl_range _ _ h1.1 h1.2 h2.1 h2.2
  have h4 := clamp_range a 1 65536 (by omega)
  rw [clamp_idem _ 1 65536 h4.1 h4.2, clamp_idem _ 0 30 h2.1 h2.2]
  rw [if_pos h2.1]
  rw [show mn (shl .i64 (mn (mx b 1) 65536) (mn (mx c 0) 30)) 1099511627776 = bl (mn (mx b 1) 65536) (mn (mx c 0) 30) from rfl]
  rw [show mn (shl .i64 (mn (mx a 1) 65536) (mn (mx c 0) 30)) 1099511627776 = bl (mn (mx a 1) 65536) (mn (mx c 0) 30) from rfl]
  split
  · rfl
  · generalize bl (mn (mx b 1) 65536) (mn (mx c 0) 30) = B at *
    generalize mn (mx i 0) 1099511627776 = I at *
    generalize mn (mx c 0) 30 = C at *
    have e1 : wrap64 (wrap64 (I + 1) + B) = I + 1 + B := by unfold wrap64; omega
    have e2 : wrap64 (C + 1) = C + 1 := by unfold wrap64; omega
    have e3 : mx 0 (mn (I + 1 + B) 4398046511104) = I + 1 + B := by unfold mx mn; split <;> split <;> omega
    rw [e1, e2, e3]
theorem thr_bl (a b c d : Int) : scheduler_Threshold.f a b c d = some (bl (mn (mx a 1) 65536) (mn (mx c 0) 30)) := thr_eq a b c d
theorem Bans (a b c d i f : Int) : ∃ k, saturatelaw32_SchedulerBans.f k a b c d i f = some true := by
  refine ⟨201, ?_⟩
  have ha := clamp_range a 1 65536 (by omega)
  have hb := clamp_range b 1 65536 (by omega)
  have hc := clamp_range c 0 30 (by omega)
  have hd := clamp_range d 0 4398046511104 (by omega)
  have hi := clamp_range i 0 1099511627776 (by omega)
  have hbl := bl_range _ _ hb.1 hb.2 hc.1 hc.2
  unfold saturatelaw32_SchedulerBans.f
  rw [tk_eq]; simp only [Option.bind_some]
  unfold tk
  split
  · simp only [thr_bl, ready_eq, Option.bind_some]
    rw [clamp_idem _ 1 65536 ha.1 ha.2, clamp_idem _ 0 30 hc.1 hc.2, clamp_idem _ 0 4398046511104 hd.1 hd.2]
    rw [if_neg (by omega)]
    by_cases hr : decide (mn (mx i 0) 1099511627776 ≥ mn (mx d 0) 4398046511104) = true
    · rw [if_pos hr]
      simp only [hr, if_true, saturatelaw32_SchedulerBans.j0, Bool.not_true, Bool.false_eq_true, if_false, lives_some 200 (by omega), Option.bind_some]
    · rw [if_neg hr]
      simp only [saturatelaw32_SchedulerBans.j0, Bool.false_eq_true, if_false, if_true, lives_some 200 (by omega), Option.bind_some]
  · have hm := bl_mono (mn (mx a 1) 65536) (mn (mx c 0) 30) (mn (mn (mx c 0) 30 + 1) 30) ha.1 ha.2 hc.1 (by unfold mn; split <;> split <;> omega) (by unfold mn; split <;> split <;> omega)
    have hc' : 0 ≤ mn (mn (mx c 0) 30 + 1) 30 ∧ mn (mn (mx c 0) 30 + 1) 30 ≤ 30 := by
      generalize mn (mx c 0) 30 = C at *
      constructor <;> (unfold mn; split <;> omega)
    simp only [thr_bl, Option.bind_some]
    rw [clamp_idem _ 1 65536 ha.1 ha.2, clamp_idem _ 0 30 hc'.1 hc'.2]
    rw [if_neg (by omega)]
    have fin : ∀ r : Bool, saturatelaw32_SchedulerBans.j0 201 i false false (mn (mx a 1) 65536) (mn (mx b 1) 65536) (mn (mn (mx c 0) 30 + 1) 30) (mn (mx i 0) 1099511627776 + 1 + bl (mn (mx b 1) 65536) (mn (mx c 0) 30)) = some true := by
      intro _
      generalize bl (mn (mx b 1) 65536) (mn (mx c 0) 30) = B at *
      simp only [saturatelaw32_SchedulerBans.j0, Bool.false_eq_true, if_false, lives_some 200 (by omega), Option.bind_some]
      split
      · simp only [ready_eq, Option.bind_some]
        generalize mn (mx i 0) 1099511627776 = I at *
        have e1 : wrap64 (I + 1 + B - 1) = I + B := by unfold wrap64; omega
        rw [e1, clamp_idem (I + B) 0 1099511627776 (by omega) (by omega), clamp_idem (I + 1 + B) 0 4398046511104 (by omega) (by omega), clamp_idem (I + 1 + B) 0 1099511627776 (by omega) (by omega)]
        rw [decide_eq_false (show ¬ (I + B ≥ I + 1 + B) by omega), decide_eq_true (show I + 1 + B ≥ I + 1 + B by omega), decide_eq_false (show ¬ (I ≥ I + 1 + B) by omega)]
        rfl
      · rfl
    rw [ready_eq]; simp only [Option.bind_some, Bool.false_eq_true, if_false, fin true, ite_self]

/-! ### Simulates -/
def rdy (d i : Int) : Bool := decide (mn (mx i 0) 1099511627776 ≥ mn (mx d 0) 4398046511104)
def simF (a b c d : Int) : List Int → Int → List Bool
  | [], _ => []
  | f :: fs, i => if rdy d i = true then (tk a b c d i f).2.2.2.2 :: simF (tk a b c d i f).1 (tk a b c d i f).2.1 (tk a b c d i f).2.2.1 (tk a b c d i f).2.2.2.1 fs (i + 1) else false :: simF a b c d fs (i + 1)
theorem simF_length (l : List Int) : ∀ a b c d i, (simF a b c d l i).length = l.length := by
  induction l with
  | nil => intros; rfl
  | cons f fs ih => intro a b c d i; simp only [simF]; split <;> simp [ih]
theorem rd_mid (pre rest : List Int) (f : Int) : rd (pre ++ f :: rest) (pre.length : Int) = f := by
  simp [rd]
theorem sim_at (rest : List Int) : ∀ (k : Nat) (pre : List Int) (done : List Bool) (a b c d n i : Int), done.length = pre.length → i = pre.length → n = ((pre ++ rest).length : Nat) → (pre ++ rest).length ≤ 1000 → rest.length < k →
    scheduler_Simulate.l0 k (pre ++ rest) (done ++ List.replicate rest.length false) n i a b c d = some (done ++ simF a b c d rest i) := by
  induction rest with
  | nil =>
    intro k pre done a b c d n i h1 h2 h3 h4 h5
    obtain ⟨k, rfl⟩ : ∃ m, k = m + 1 := ⟨k - 1, by omega⟩
    simp only [scheduler_Simulate.l0]
    rw [if_neg (by simp at h3; omega)]
    simp [simF]
  | cons f fs ih =>
    intro k pre done a b c d n i h1 h2 h3 h4 h5
    obtain ⟨k, rfl⟩ : ∃ m, k = m + 1 := ⟨k - 1, by omega⟩
    simp only [List.length_append, List.length_cons] at h3 h4 h5
    have ew : wrap64 (i + 1) = i + 1 := by unfold wrap64; omega
    have el : pre ++ f :: fs = (pre ++ [f]) ++ fs := by simp
    simp only [scheduler_Simulate.l0, ready_eq, Option.bind_some, simF]
    rw [if_pos (by omega), ew]
    by_cases hr : rdy d i = true
    · have hr' := hr
      unfold rdy at hr'
      rw [if_pos hr', if_pos hr, if_pos (by omega), if_pos (by simp; omega)]
      subst h2
      rw [rd_mid, tk_eq]
      simp only [Option.bind_some]
      rw [if_pos (by simp; omega)]
      have es : (done ++ List.replicate (f :: fs).length false).set (pre.length : Int).toNat (tk a b c d pre.length f).2.2.2.2 = (done ++ [(tk a b c d pre.length f).2.2.2.2]) ++ List.replicate fs.length false := by
        rw [Int.toNat_natCast, ← h1, List.set_append_right _ _ (Nat.le_refl _), Nat.sub_self]
        simp [List.replicate_succ]
      rw [es, el, ih k (pre ++ [f]) _ _ _ _ _ n _ (by simp [h1]) (by simp) (by simp; omega) (by simp; omega) (by omega)]
      simp
    · have hr' := hr
      unfold rdy at hr'
      rw [if_neg hr', if_neg hr]
      have es : done ++ List.replicate (f :: fs).length false = (done ++ [false]) ++ List.replicate fs.length false := by simp [List.replicate_succ]
      rw [es, el, ih k (pre ++ [f]) (done ++ [false]) _ _ _ _ n _ (by simp [h1]) (by simp [h2]) (by simp; omega) (by simp; omega) (by omega)]
      simp
theorem Sim_at (rest : List Int) : ∀ (k : Nat) (pre : List Int) (done : List Bool) (a b c d i : Int), done.length = pre.length → i = pre.length → (pre ++ rest).length ≤ 1000 → rest.length + 33 < k →
    saturateref32_Simulate.l0 k (pre ++ rest) done i a b c d = some (done ++ simF a b c d rest i) := by
  induction rest with
  | nil =>
    intro k pre done a b c d i h1 h2 h4 h5
    obtain ⟨k, rfl⟩ : ∃ m, k = m + 1 := ⟨k - 1, by omega⟩
    simp only [saturateref32_Simulate.l0]
    rw [if_neg (by simp; omega)]
    simp [simF]
  | cons f fs ih =>
    intro k pre done a b c d i h1 h2 h4 h5
    obtain ⟨k, rfl⟩ : ∃ m, k = m + 1 := ⟨k - 1, by omega⟩
    simp only [List.length_append, List.length_cons] at h4 h5
    have ew : wrap64 (i + 1) = i + 1 := by unfold wrap64; omega
    have el : pre ++ f :: fs = (pre ++ [f]) ++ fs := by simp
    simp only [saturateref32_Simulate.l0, Ready_eq, ready_eq, Option.bind_some, simF]
    rw [if_pos (by simp; omega), ew]
    by_cases hr : rdy d i = true
    · have hr' := hr
      unfold rdy at hr'
      rw [if_pos hr', if_pos hr, if_pos (by omega)]
      subst h2
      rw [rd_mid, take_eq k (by omega), tk_eq]
      simp only [Option.bind_some]
      rw [if_pos (by omega)]
      rw [el, ih k (pre ++ [f]) _ _ _ _ _ _ (by simp [h1]) (by simp) (by simp; omega) (by omega)]
      simp
    · have hr' := hr
      unfold rdy at hr'
      rw [if_neg hr', if_neg hr, if_pos (by omega), el, ih k (pre ++ [f]) (done ++ [false]) _ _ _ _ _ (by simp [h1]) (by simp [h2]) (by simp; omega) (by omega)]
      simp
theorem sim_eq (k : Nat) (l : List Int) (h : l.length ≤ 1000) (hk : l.length < k) (a b c d : Int) : scheduler_Simulate.f k a b c d l = some (simF a b c d l 0) := by
  unfold scheduler_Simulate.f
  rw [if_pos (by omega), if_pos (by omega), Int.toNat_natCast]
  have := sim_at l k [] [] a b c d (l.length : Int) 0 rfl rfl (by simp) (by simpa using h) hk
  simpa using this
theorem Sim_eq (k : Nat) (l : List Int) (h : l.length ≤ 1000) (hk : l.length + 33 < k) (a b c d : Int) : saturateref32_Simulate.f k a b c d l = some (simF a b c d l 0) := by
  unfold saturateref32_Simulate.f
  have := Sim_at l k [] [] a b c d 0 rfl rfl (by simpa using h) hk
  simpa using this
theorem same_at (x : List Bool) (hx : x.length ≤ 1000) (m : Nat) : ∀ (k : Nat) (i : Int), 0 ≤ i → i ≤ x.length → (x.length : Int) - i = m → m + 201 < k → saturatelaw32_SchedulerSimulates.l0 k x x i = some true := by
  induction m with
  | zero =>
    intro k i h0 h1 h2 h3
    obtain ⟨k, rfl⟩ : ∃ m, k = m + 1 := ⟨k - 1, by omega⟩
    simp only [saturatelaw32_SchedulerSimulates.l0]
    rw [if_neg (by omega), lives_some k (by omega)]; rfl
  | succ m ih =>
    intro k i h0 h1 h2 h3
    obtain ⟨k, rfl⟩ : ∃ m, k = m + 1 := ⟨k - 1, by omega⟩
    simp only [saturatelaw32_SchedulerSimulates.l0]
    rw [if_pos (by omega), if_pos h0, if_pos (by omega), if_neg (by simp), show wrap64 (i + 1) = i + 1 by unfold wrap64; omega]
    exact ih k _ (by omega) (by omega) (by omega) (by omega)
theorem Simulates (a b c d : Int) (l : List Int) : ∃ k, saturatelaw32_SchedulerSimulates.f k a b c d l = some true := by
  refine ⟨2000, ?_⟩
  unfold saturatelaw32_SchedulerSimulates.f
  split
  · rw [lives_some 2000 (by omega)]; rfl
  · rw [sim_eq 2000 l (by omega) (by omega), Sim_eq 2000 l (by omega) (by omega)]
    simp only [Option.bind_some, if_true]
    exact same_at _ (by rw [simF_length]; omega) _ 2000 0 (by omega) (by omega) rfl (by simp only [simF_length]; omega)

/-! ### New, and Never -/
/-- A new state. -/
def fresh (a1 a2 : Int) : S26 := ⟨mn (mx a1 1) 65536, mn (mx a2 1) 65536, 0, 0⟩
theorem norm_fresh (a1 a2 : Int) : scheduler_norm.f a1 a2 0 0 = some ((fresh a1 a2).f0, (fresh a1 a2).f1, (fresh a1 a2).f2, (fresh a1 a2).f3) := by rw [norm_eq]; rfl
theorem Norm_fresh (a1 a2 : Int) : saturateref32_Norm.f a1 a2 0 0 = some ((fresh a1 a2).f0, (fresh a1 a2).f1, (fresh a1 a2).f2, (fresh a1 a2).f3) := by rw [Norm_eq]; rfl
theorem new_at (a1 a2 : Int) (n m : Nat) (hn : n ≤ 1024) : ∀ (k j : Nat), j + m = n → m < k →
    scheduler_New.l0 k a1 a2 (List.replicate j (fresh a1 a2) ++ List.replicate m z26) (n : Int) (j : Int) = some (List.replicate n (fresh a1 a2)) := by
  induction m with
  | zero =>
    intro k j h hk
    obtain ⟨k, rfl⟩ : ∃ m, k = m + 1 := ⟨k - 1, by omega⟩
    simp only [scheduler_New.l0]
    rw [if_neg (by omega)]
    obtain rfl : j = n := by omega
    simp
  | succ m ih =>
    intro k j h hk
    obtain ⟨k, rfl⟩ : ∃ m, k = m + 1 := ⟨k - 1, by omega⟩
    simp only [scheduler_New.l0]
    rw [if_pos (by omega), norm_fresh]
    simp only [Option.bind_some]
    rw [if_pos (by omega), if_pos (by simp; omega), show wrap64 ((j : Int) + 1) = ((j + 1 : Nat) : Int) by unfold wrap64; omega]
    have es : (List.replicate j (fresh a1 a2) ++ List.replicate (m + 1) z26).set (j : Int).toNat (⟨(fresh a1 a2).f0, (fresh a1 a2).f1, (fresh a1 a2).f2, (fresh a1 a2).f3⟩ : S26) = List.replicate (j + 1) (fresh a1 a2) ++ List.replicate m z26 := by
      rw [Int.toNat_natCast, List.set_append_right _ _ (by simp), List.length_replicate, Nat.sub_self, List.replicate_succ, List.set_cons_zero, List.replicate_succ', List.append_assoc]
      rfl
    rw [es]
    exact ih k (j + 1) (by omega) (by omega)
theorem new_eq (k : Nat) (a0 a1 a2 : Int) (hk : 1025 < k) : scheduler_New.f k a0 a1 a2 = some (List.replicate (mn (mx a0 0) 1024).toNat (fresh a1 a2)) := by
  have h := clamp_range a0 0 1024 (by omega)
  simp only [scheduler_New.f, scheduler_clamp.f, Option.bind_some]
  rw [clamp_same a0 0 1024 (by omega), if_pos h.1, if_pos (by omega), List.length_replicate]
  have := new_at a1 a2 (mn (mx a0 0) 1024).toNat (mn (mx a0 0) 1024).toNat (by omega) k 0 (by omega) (by omega)
  simpa using this
theorem New_at (a0 a1 a2 : Int) (m : Nat) : ∀ (k j : Nat), j + m = (mn (mx a0 0) 1024).toNat → m < k →
    saturateref32_New.l0 k a0 a1 a2 (List.replicate j (fresh a1 a2)) (j : Int) = some (List.replicate (mn (mx a0 0) 1024).toNat (fresh a1 a2)) := by
  have h := clamp_range a0 0 1024 (by omega)
  induction m with
  | zero =>
    intro k j e hk
    obtain ⟨k, rfl⟩ : ∃ m, k = m + 1 := ⟨k - 1, by omega⟩
    simp only [saturateref32_New.l0, saturateref32_clamp.f, Option.bind_some]
    rw [if_neg (by omega)]
    rw [show j = (mn (mx a0 0) 1024).toNat by omega]
  | succ m ih =>
    intro k j e hk
    obtain ⟨k, rfl⟩ : ∃ m, k = m + 1 := ⟨k - 1, by omega⟩
    simp only [saturateref32_New.l0, saturateref32_clamp.f, Option.bind_some]
    rw [if_pos (by omega), Norm_fresh]
    simp only [Option.bind_some]
    rw [if_pos (by simp; omega), show wrap64 ((j : Int) + 1) = ((j + 1 : Nat) : Int) by unfold wrap64; omega]
    have es : List.replicate j (fresh a1 a2) ++ [(⟨(fresh a1 a2).f0, (fresh a1 a2).f1, (fresh a1 a2).f2, (fresh a1 a2).f3⟩ : S26)] = List.replicate (j + 1) (fresh a1 a2) := by rw [List.replicate_succ']
    rw [es]
    exact ih k (j + 1) (by omega) (by omega)
theorem New_eq (k : Nat) (a0 a1 a2 : Int) (hk : 1025 < k) : saturateref32_New.f k a0 a1 a2 = some (List.replicate (mn (mx a0 0) 1024).toNat (fresh a1 a2)) := by
  have h := clamp_range a0 0 1024 (by omega)
  unfold saturateref32_New.f
  exact New_at a0 a1 a2 (mn (mx a0 0) 1024).toNat k 0 (by omega) (by omega)

theorem rd_mid' (pre rest : List Int) (f : Int) (i : Int) (h : i = pre.length) : rd (pre ++ f :: rest) i = f := by subst h; exact rd_mid _ _ _
theorem sim_few (s : S26) (h0 : 1 ≤ s.f0 ∧ s.f0 ≤ 65536) (h1 : 1 ≤ s.f1 ∧ s.f1 ≤ 65536) (h2 : s.f2 = 0) (h3 : s.f3 = 0) (l : List Int) : ∀ i : Int, 0 ≤ i → (∀ x ∈ l, x ≤ s.f0) → simF s.f0 s.f1 s.f2 s.f3 l i = List.replicate l.length true := by
  induction l with
  | nil => intros; rfl
  | cons f fs ih =>
    intro i hi hl
    have hr : rdy s.f3 i = true := by
      rw [h3]; unfold rdy
      refine decide_eq_true ?_
      have := clamp_range i 0 1099511627776 (by omega)
      rw [clamp_idem 0 0 4398046511104 (by omega) (by omega)]; omega
    have hf := hl f (by simp)
    have ht : tk s.f0 s.f1 s.f2 s.f3 i f = (s.f0, s.f1, s.f2, s.f3, true) := by
      unfold tk
      rw [clamp_idem s.f0 1 65536 h0.1 h0.2, clamp_idem s.f1 1 65536 h1.1 h1.2, clamp_idem s.f2 0 30 (by omega) (by omega), clamp_idem s.f3 0 4398046511104 (by omega) (by omega)]
      rw [if_pos]
      rw [h2]
      unfold bl
      rw [shl_in s.f0 0 h0.1 h0.2 (by omega) (by omega)]
      simp only [Int.toNat_zero, Int.pow_zero, Int.mul_one]
      unfold mn mx; repeat' split
      all_goals omega
    simp only [simF]
    rw [if_pos hr, ht]
    simp only [List.length_cons, List.replicate_succ]
    rw [ih (i + 1) (by omega) (fun x hx => hl x (by simp [hx]))]
theorem never_at (l : List Int) (s : S26) (hl : l.length ≤ 1000) (m : Nat) : ∀ (k j : Nat) (acc : List Int), j + m = l.length → m < k → acc = (l.take j).map (fun x => mn x s.f0) →
    saturatelaw32_SchedulerNever.l0 k l [s] acc (j : Int) = (scheduler_Simulate.f (k - m - 1) s.f0 s.f1 s.f2 s.f3 (l.map (fun x => mn x s.f0))).bind fun t => saturatelaw32_SchedulerNever.l1 (k - m - 1) (l.map (fun x => mn x s.f0)) t 0 := by
  induction m with
  | zero =>
    intro k j acc h hk ha
    obtain ⟨k, rfl⟩ : ∃ m, k = m + 1 := ⟨k - 1, by omega⟩
    simp only [saturatelaw32_SchedulerNever.l0]
    rw [if_neg (by omega), if_pos (by simp)]
    rw [List.take_of_length_le (by omega)] at ha
    rw [ha]
    rfl
  | succ m ih =>
    intro k j acc h hk ha
    obtain ⟨k, rfl⟩ : ∃ m, k = m + 1 := ⟨k - 1, by omega⟩
    simp only [saturatelaw32_SchedulerNever.l0]
    have hal : acc.length = j := by rw [ha]; simp; omega
    rw [if_pos (by omega), if_pos (by omega), if_pos (by simp), if_pos (by omega), show wrap64 ((j : Int) + 1) = ((j + 1 : Nat) : Int) by unfold wrap64; omega]
    rw [ih k (j + 1) _ (by omega) (by omega) ?_]
    · rw [show k + 1 - (m + 1) - 1 = k - m - 1 by omega]
    · rw [ha, List.take_succ_eq_append_getElem (by omega)]
      simp only [List.map_append, List.map_cons, List.map_nil]
      congr 1
      have e1 : rd l (j : Int) = l[j]'(by omega) := by simp [rd, List.getD_eq_getElem?_getD, List.getElem?_eq_getElem (show j < l.length by omega)]
      rw [e1]; rfl
theorem never_end (f : List Int) (n : Nat) (hn : n = f.length) (hl : n ≤ 1000) (m : Nat) : ∀ (k : Nat) (i : Int), 0 ≤ i → i ≤ n → (n : Int) - i = m → m + 201 < k → saturatelaw32_SchedulerNever.l1 k f (List.replicate n true) i = some true := by
  induction m with
  | zero =>
    intro k i h0 h1 h2 h3
    obtain ⟨k, rfl⟩ : ∃ m, k = m + 1 := ⟨k - 1, by omega⟩
    simp only [saturatelaw32_SchedulerNever.l1, List.length_replicate]
    rw [if_neg (by omega), if_pos (by rw [hn]), lives_some k (by omega)]; rfl
  | succ m ih =>
    intro k i h0 h1 h2 h3
    obtain ⟨k, rfl⟩ : ∃ m, k = m + 1 := ⟨k - 1, by omega⟩
    simp only [saturatelaw32_SchedulerNever.l1, List.length_replicate]
    rw [if_pos (by omega), if_pos h0, if_pos, show wrap64 (i + 1) = i + 1 by unfold wrap64; omega]
    · exact ih k _ (by omega) (by omega) (by omega) (by omega)
    · simp only [rdOf, List.getD_eq_getElem?_getD]
      rw [List.getElem?_replicate, if_pos (by omega)]; rfl
theorem Never (a0 a1 : Int) (l : List Int) : ∃ k, saturatelaw32_SchedulerNever.f k a0 a1 l = some true := by
  obtain ⟨K, hK⟩ : ∃ K : Nat, K = 5000 := ⟨_, rfl⟩
  refine ⟨K, ?_⟩
  unfold saturatelaw32_SchedulerNever.f
  split
  · rw [lives_some K (by omega)]; rfl
  · rename_i hle
    rw [new_eq K 1 a0 a1 (by omega)]
    rw [show (mn (mx 1 0) 1024).toNat = 1 by simp [mx, mn]]
    simp only [Option.bind_some, List.replicate_one, List.length_singleton]
    rw [if_pos (by rfl)]
    have hL := clamp_range a0 1 65536 (by omega)
    have hB := clamp_range a1 1 65536 (by omega)
    have := never_at l (fresh a0 a1) (by omega) l.length K 0 [] (by omega) (by omega) (by simp)
    rw [show ((0 : Nat) : Int) = 0 from rfl] at this
    rw [this, sim_eq _ _ (by simp; omega) (by simp; omega)]
    simp only [Option.bind_some]
    rw [sim_few (fresh a0 a1) hL hB rfl rfl _ 0 (by omega) (by
      intro x hx
      obtain ⟨y, _, rfl⟩ := List.mem_map.1 hx
      unfold mn; split <;> omega)]
    exact never_end _ _ (by simp) (by simp; omega) (l.map (fun x => mn x (fresh a0 a1).f0)).length _ 0 (by omega) (by omega) (by simp) (by simp; omega)

/-! ### States -/
theorem banned_at (l : List S26) (x1 : Int) (hl : l.length ≤ 200) (m : Nat) : ∀ (k : Nat) (x5 x10 : Int), 0 ≤ x10 → x10 ≤ l.length → (l.length : Int) - x10 = m → m < k → 0 ≤ x5 → x5 ≤ x10 →
    ∃ r, scheduler_Banned.l0 k x1 x5 l (l.length : Int) x10 = some r ∧ saturateref32_Banned.l0 k l x1 x5 x10 = some r := by
  induction m with
  | zero =>
    intro k x5 x10 h0 h1 h2 h3 h4 h5
    obtain ⟨k, rfl⟩ : ∃ m, k = m + 1 := ⟨k - 1, by omega⟩
    simp only [scheduler_Banned.l0, saturateref32_Banned.l0]
    rw [if_neg (by omega), if_neg (by omega)]
    exact ⟨_, rfl, rfl⟩
  | succ m ih =>
    intro k x5 x10 h0 h1 h2 h3 h4 h5
    obtain ⟨k, rfl⟩ : ∃ m, k = m + 1 := ⟨k - 1, by omega⟩
    simp only [scheduler_Banned.l0, saturateref32_Banned.l0, Ready_eq, ready_eq, Option.bind_some]
    have c1 : x10 < (l.length : Int) := by omega
    simp only [if_pos c1, if_pos h0]
    rw [show wrap64 (x10 + 1) = x10 + 1 by unfold wrap64; omega, show wrap64 (x5 + 1) = x5 + 1 by unfold wrap64; omega]
    by_cases hr : decide (mn (mx x1 0) 1099511627776 ≥ mn (mx (rd_T26 l x10).f3 0) 4398046511104) = true
    · rw [if_pos hr, if_pos hr]
      exact ih k _ _ (by omega) (by omega) (by omega) (by omega) (by omega) (by omega)
    · rw [if_neg hr, if_neg hr]
      exact ih k _ _ (by omega) (by omega) (by omega) (by omega) (by omega) (by omega)

theorem states1_at (l : List S26) (x3 : Int) (hl : l.length ≤ 200) (m : Nat) : ∀ (k : Nat) (i : Int), 0 ≤ i → i ≤ l.length → (l.length : Int) - i = m → m + 500 < k → saturatelaw32_SchedulerStates.l1 k x3 l i = some true := by
  induction m with
  | zero =>
    intro k i h0 h1 h2 h3
    obtain ⟨k, rfl⟩ : ∃ m, k = m + 1 := ⟨k - 1, by omega⟩
    simp only [saturatelaw32_SchedulerStates.l1]
    rw [if_neg (by omega)]
    unfold scheduler_Banned.f saturateref32_Banned.f
    obtain ⟨r, e1, e2⟩ := banned_at l x3 hl l.length k 0 0 (by omega) (by omega) (by omega) (by omega) (by omega) (by omega)
    rw [e1, e2]
    simp only [Option.bind_some, if_true]
    rw [lives_some k (by omega)]; rfl
  | succ m ih =>
    intro k i h0 h1 h2 h3
    obtain ⟨k, rfl⟩ : ∃ m, k = m + 1 := ⟨k - 1, by omega⟩
    simp only [saturatelaw32_SchedulerStates.l1]
    rw [if_pos (by omega), if_pos h0, Ready_eq, ready_eq]
    simp only [Option.bind_some]
    rw [if_neg (by simp), Thr_eq k (by omega), thr_eq]
    simp only [Option.bind_some, if_true]
    rw [show wrap64 (i + 1) = i + 1 by unfold wrap64; omega]
    exact ih k _ (by omega) (by omega) (by omega) (by omega)
theorem states0_at (l : List S26) (x3 : Int) (hl : l.length ≤ 200) (s : List S26) (hs : s.length ≤ 1024) (m : Nat) : ∀ (k : Nat) (i : Int), 0 ≤ i → i ≤ s.length → (s.length : Int) - i = m → m + 800 < k → saturatelaw32_SchedulerStates.l0 k x3 l s s i = some true := by
  induction m with
  | zero =>
    intro k i h0 h1 h2 h3
    obtain ⟨k, rfl⟩ : ∃ m, k = m + 1 := ⟨k - 1, by omega⟩
    simp only [saturatelaw32_SchedulerStates.l0]
    rw [if_neg (by omega)]
    exact states1_at l x3 hl l.length k 0 (by omega) (by omega) (by omega) (by omega)
  | succ m ih =>
    intro k i h0 h1 h2 h3
    obtain ⟨k, rfl⟩ : ∃ m, k = m + 1 := ⟨k - 1, by omega⟩
    simp only [saturatelaw32_SchedulerStates.l0]
    rw [if_pos (by omega), if_pos h0, if_pos (by omega), if_neg (by simp), show wrap64 (i + 1) = i + 1 by unfold wrap64; omega]
    exact ih k _ (by omega) (by omega) (by omega) (by omega)
theorem States (a0 a1 a2 a3 : Int) (l : List S26) : ∃ k, saturatelaw32_SchedulerStates.f k a0 a1 a2 a3 l = some true := by
  obtain ⟨K, hK⟩ : ∃ K : Nat, K = 5000 := ⟨_, rfl⟩
  refine ⟨K, ?_⟩
  unfold saturatelaw32_SchedulerStates.f
  split
  · rw [lives_some K (by omega)]; rfl
  · have h := clamp_range a0 0 1024 (by omega)
    rw [new_eq K a0 a1 a2 (by omega), New_eq K a0 a1 a2 (by omega)]
    simp only [Option.bind_some, if_true]
    exact states0_at l a3 (by omega) _ (by simp; omega) (mn (mx a0 0) 1024).toNat K 0 (by omega) (by omega) (by simp) (by omega)

end Go.Proofs.Ytfocgjcfalhglaa.QAll
