/- What functions of the translation compute, and that the machine's calls of them come to that: printed by this session's own program, a variant of the print. No condition. -/
import Derived.Test.YtiigmklolapckaaQAllx0
namespace Go.Proofs.Ytiigmklolapckaa.QAll
open Go.RowKit Go.Proofs.YtiigmklolapckaaW.PrintWords Go.Proofs.YtiigmklolapckaaW.PrintLast Go.Proofs.YtiigmklolapckaaW.PrintMore
attribute [local go_sem] max2_int min2_int max_two min_two max_three min_three max_four min_four   -- for this text's walks alone
set_option linter.unusedVariables false
set_option linter.unusedSimpArgs false

/-! ### saturatelaw41_agrees: function 21 -/
def saturatelaw41_agrees.l0 : Nat → List Int → List Bool → Int → Option (Bool)
 | 0, _, _, _ => none
 | k + 1, x0, x1, x5 => if x5 < (x0.length : Int) then (if 0 ≤ x5 then (if (rd x0 x5) = 1 then (if x5 < (x1.length : Int) then (if rdOf false x1 x5 = true then (if (rd x0 x5) = 0 then (some false) else (saturatelaw41_agrees.l0 k x0 x1 (wrap64 (x5 + 1)))) else (some false)) else (none)) else (if (rd x0 x5) = 0 then (if x5 < (x1.length : Int) then (if rdOf false x1 x5 = true then (some false) else (saturatelaw41_agrees.l0 k x0 x1 (wrap64 (x5 + 1)))) else (none)) else (saturatelaw41_agrees.l0 k x0 x1 (wrap64 (x5 + 1))))) else (none)) else (some true)
def saturatelaw41_agrees.f (k : Nat) (l0 : List Int) (l1 : List Bool) : Option (Bool) := saturatelaw41_agrees.l0 k l0 l1 0
theorem saturatelaw41_agrees.mono_l : ∀ k, (∀ y0 y1 y2, LeO (saturatelaw41_agrees.l0 k y0 y1 y2) (saturatelaw41_agrees.l0 (k + 1) y0 y1 y2))
 | 0 => fun _ _ _ r h => by simp [saturatelaw41_agrees.l0] at h
 | k + 1 => by
  have ih0 := saturatelaw41_agrees.mono_l k
  ·intro y0 y1 y2
   unfold saturatelaw41_agrees.l0
   repeat' first
   | (with_reducible exact ih0 _ _ _)
   | (with_reducible exact LeO.refl _)
   | (with_reducible exact LeO.none _)
   | (with_reducible refine LeO.ite ?_ ?_)
   | (with_reducible refine LeO.bind ?_ (fun _ => ?_))
   | exact ih0 _ _ _
   | exact LeO.none _
   | refine LeO.ite ?_ ?_
   | refine LeO.bind ?_ (fun _ => ?_)
theorem saturatelaw41_agrees.mono : ∀ a0 a1 k, LeO (saturatelaw41_agrees.f k a0 a1) (saturatelaw41_agrees.f (k + 1) a0 a1) := by
 intro a0 a1 k
 have ih0 := saturatelaw41_agrees.mono_l k
 unfold saturatelaw41_agrees.f
 repeat' first
   | (with_reducible exact ih0 _ _ _)
   | (with_reducible exact LeO.refl _)
   | (with_reducible exact LeO.none _)
   | (with_reducible refine LeO.ite ?_ ?_)
   | (with_reducible refine LeO.bind ?_ (fun _ => ?_))
   | exact ih0 _ _ _
   | exact LeO.none _
   | refine LeO.ite ?_ ?_
   | refine LeO.bind ?_ (fun _ => ?_)
set_option maxHeartbeats 8000000 in
set_option maxRecDepth 100000 in
theorem saturatelaw41_agrees.calls (k : Nat) (A0 : Option Addr) (c0 : Nat) (l0 : List Int) (A1 : Option Addr) (c1 : Nat) (l1 : List Bool) (r : Bool) (w : World) (hr0 : Kd.C (Kd.int .i64) w A0 l0.length l0) (hc0 : l0.length ≤ c0) (hr1 : Kd.C Kd.bool w A1 l1.length l1) (hc1 : l1.length ≤ c1) (h : saturatelaw41_agrees.f k l0 l1 = some r) :
  Calls Try.prog 21 #[.slice A0 l0.length c0, .slice A1 l1.length c1] w fun e w' => e = .returned (.bool r) ∧ Drawn0 w w' := by
 have HR0 := Aside0.mk hr0
 have HC0 := Aside0.mk hc0
 clear hr0 hc0
 have HR1 := Aside0.mk hr1
 have HC1 := Aside0.mk hc1
 clear hr1 hc1
 have H : (saturatelaw41_agrees.l0 k l0 l1 0) = some r := h
 clear h
 have H' := Aside0.mk H
 clear H
 go_enter Try.func21, Try.ntmps21
 go_wp2
 go_loopg [5] k (fun kq v5 w' => ∃ (x5_1 : Int), v5 = .int .i64 x5_1 ∧ Aside0 (saturatelaw41_agrees.l0 kq l0 l1 x5_1 = some r) ∧ Aside0 (kq ≤ k) ∧ Drawn0 w w')
 case atStart => exact ⟨(0), (by first | rfl | (simp; done) | (simp [*]; done)), H', ⟨Nat.le_refl _⟩, by repeat (first | exact Drawn0.refl _ | apply Drawn0.step)⟩
 case round =>
  clear H'
  try clear c1
  try clear c2
  try clear p2
  obtain ⟨x5_1, rfl, HA, HK1, ⟨m1, rfl⟩⟩ := hrel
  cases gk with
  | zero => exact absurd HA.out (by simp [saturatelaw41_agrees.l0])
  | succ k1 =>
   have H := HA.out
   clear HA
   simp only [saturatelaw41_agrees.l0] at H
   by_cases c3 : x5_1 < (l0.length : Int)
   ·rw [if_pos c3] at H
    have c3b0 : decide (x5_1 < (l0.length : Int)) = true := decide_eq_true c3
    clear c3
    by_cases c4 : 0 ≤ x5_1
    ·rw [if_pos c4] at H
     have c4b0 : decide (0 ≤ x5_1) = true := decide_eq_true c4
     clear c4
     by_cases c5 : (rd l0 x5_1) = 1
     ·rw [if_pos c5] at H
      have c5b0 : ((rd l0 x5_1) == 1) = true := beq_iff_eq.mpr c5
      have c5b1 : ((rd l0 x5_1) != 1) = false := bne_eq_false_iff_eq.mpr c5
      clear c5
      by_cases c6 : x5_1 < (l1.length : Int)
      ·rw [if_pos c6] at H
       have c6b0 : decide (x5_1 < (l1.length : Int)) = true := decide_eq_true c6
       clear c6
       obtain ⟨bq7, hbq7⟩ : ∃ b_ : Bool, b_ = (rdOf false l1 x5_1) := ⟨_, rfl⟩
       replace H : (if bq7 = true then (if (rd l0 x5_1) = 0 then (some false) else (saturatelaw41_agrees.l0 k1 l0 l1 (wrap64 (x5_1 + 1)))) else (some false)) = some r := by rw [← hbq7] at H; exact H
       have Nbq7 := Aside0.mk hbq7
       clear hbq7
       by_cases c8 : bq7 = true
       ·subst c8
        have H1 : (if (rd l0 x5_1) = 0 then (some false) else (saturatelaw41_agrees.l0 k1 l0 l1 (wrap64 (x5_1 + 1)))) = some r := by rw [if_pos rfl] at H; exact H
        clear H
        have H := H1
        clear H1
        by_cases c9 : (rd l0 x5_1) = 0
        ·rw [if_pos c9] at H
         have c9b0 : ((rd l0 x5_1) == 0) = true := beq_iff_eq.mpr c9
         have c9b1 : ((rd l0 x5_1) != 0) = false := bne_eq_false_iff_eq.mpr c9
         clear c9
         obtain rfl := Option.some.inj H
         have p374 : 0 ≤ (x5_1 : Int) := of_decide_eq_true (by first | (with_reducible assumption) | assumption)
         have q374 : x5_1 < (l0.length : Int) := of_decide_eq_true (by first | (with_reducible assumption) | assumption)
         obtain ⟨ad374, e374, hx374_0⟩ := Kd.at_int HR0.out x5_1 p374 q374
         cases e374
         replace p374 := eq_true p374
         replace q374 := eq_true q374
         have p375 : 0 ≤ (x5_1 : Int) := of_decide_eq_true (by first | (with_reducible assumption) | assumption)
         have q375 : x5_1 < (l1.length : Int) := of_decide_eq_true (by first | (with_reducible assumption) | assumption)
         obtain ⟨ad375, e375, hx375_0⟩ := Kd.at_bool HR1.out x5_1 p375 q375
         (try rw [← Nbq7.out] at hx375_0)
         cases e375
         replace p375 := eq_true p375
         replace q375 := eq_true q375
         have p376 : 0 ≤ (x5_1 : Int) := of_decide_eq_true (by first | (with_reducible assumption) | assumption)
         have q376 : x5_1 < (l0.length : Int) := of_decide_eq_true (by first | (with_reducible assumption) | assumption)
         obtain ⟨ad376, e376, hx376_0⟩ := Kd.at_int HR0.out x5_1 p376 q376
         obtain rfl : ad374 = ad376 := (by injection e376)
         replace p376 := eq_true p376
         replace q376 := eq_true q376
         have p377 : 0 ≤ (x5_1 : Int) := of_decide_eq_true (by first | (with_reducible assumption) | assumption)
         have q377 : x5_1 < (l1.length : Int) := of_decide_eq_true (by first | (with_reducible assumption) | assumption)
         obtain ⟨ad377, e377, hx377_0⟩ := Kd.at_bool HR1.out x5_1 p377 q377
         (try rw [← Nbq7.out] at hx377_0)
         obtain rfl : ad375 = ad377 := (by injection e377)
         replace p377 := eq_true p377
         replace q377 := eq_true q377
         go_wp2
         go_ret
         exact ⟨by first | rfl | (simp; done) | (simp [*]; done), by repeat (first | exact Drawn0.refl _ | apply Drawn0.step)⟩
        ·rw [if_neg c9] at H
         have c9b0 : ((rd l0 x5_1) == 0) = false := beq_eq_false_iff_ne.mpr c9
         have c9b1 : ((rd l0 x5_1) != 0) = true := bne_iff_ne.mpr c9
         have H' := Aside0.mk H
         clear H
         have p374 : 0 ≤ (x5_1 : Int) := of_decide_eq_true (by first | (with_reducible assumption) | assumption)
         have q374 : x5_1 < (l0.length : Int) := of_decide_eq_true (by first | (with_reducible assumption) | assumption)
         obtain ⟨ad374, e374, hx374_0⟩ := Kd.at_int HR0.out x5_1 p374 q374
         cases e374
         replace p374 := eq_true p374
         replace q374 := eq_true q374
         have p375 : 0 ≤ (x5_1 : Int) := of_decide_eq_true (by first | (with_reducible assumption) | assumption)
         have q375 : x5_1 < (l1.length : Int) := of_decide_eq_true (by first | (with_reducible assumption) | assumption)
         obtain ⟨ad375, e375, hx375_0⟩ := Kd.at_bool HR1.out x5_1 p375 q375
         (try rw [← Nbq7.out] at hx375_0)
         cases e375
         replace p375 := eq_true p375
         replace q375 := eq_true q375
         have p376 : 0 ≤ (x5_1 : Int) := of_decide_eq_true (by first | (with_reducible assumption) | assumption)
         have q376 : x5_1 < (l0.length : Int) := of_decide_eq_true (by first | (with_reducible assumption) | assumption)
         obtain ⟨ad376, e376, hx376_0⟩ := Kd.at_int HR0.out x5_1 p376 q376
         obtain rfl : ad374 = ad376 := (by injection e376)
         replace p376 := eq_true p376
         replace q376 := eq_true q376
         go_wp2
         go_roundg k1
         case measure => have := HK1.out; omega
         case rel => exact ⟨(wrap64 (x5_1 + 1)), (by first | rfl | (simp; done) | (simp [*]; done)), H', ⟨by have := HK1.out; omega⟩, by repeat (first | exact Drawn0.refl _ | apply Drawn0.step)⟩
       ·replace c8 := Bool.eq_false_iff.mpr c8
        subst c8
        have H1 : (some false) = some r := by rw [if_neg (show ¬ (false = true) by decide)] at H; exact H
        clear H
        have H := H1
        clear H1
        obtain rfl := Option.some.inj H
        have p374 : 0 ≤ (x5_1 : Int) := of_decide_eq_true (by first | (with_reducible assumption) | assumption)
        have q374 : x5_1 < (l0.length : Int) := of_decide_eq_true (by first | (with_reducible assumption) | assumption)
        obtain ⟨ad374, e374, hx374_0⟩ := Kd.at_int HR0.out x5_1 p374 q374
        cases e374
        replace p374 := eq_true p374
        replace q374 := eq_true q374
        have p375 : 0 ≤ (x5_1 : Int) := of_decide_eq_true (by first | (with_reducible assumption) | assumption)
        have q375 : x5_1 < (l1.length : Int) := of_decide_eq_true (by first | (with_reducible assumption) | assumption)
        obtain ⟨ad375, e375, hx375_0⟩ := Kd.at_bool HR1.out x5_1 p375 q375
        (try rw [← Nbq7.out] at hx375_0)
        cases e375
        replace p375 := eq_true p375
        replace q375 := eq_true q375
        go_wp2
        go_ret
        exact ⟨by first | rfl | (simp; done) | (simp [*]; done), by repeat (first | exact Drawn0.refl _ | apply Drawn0.step)⟩
      ·rw [if_neg c6] at H
       exact absurd H (by simp)
     ·rw [if_neg c5] at H
      have c5b0 : ((rd l0 x5_1) == 1) = false := beq_eq_false_iff_ne.mpr c5
      have c5b1 : ((rd l0 x5_1) != 1) = true := bne_iff_ne.mpr c5
      by_cases c10 : (rd l0 x5_1) = 0
      ·rw [if_pos c10] at H
       have c10b0 : ((rd l0 x5_1) == 0) = true := beq_iff_eq.mpr c10
       have c10b1 : ((rd l0 x5_1) != 0) = false := bne_eq_false_iff_eq.mpr c10
       clear c10
       by_cases c11 : x5_1 < (l1.length : Int)
       ·rw [if_pos c11] at H
        have c11b0 : decide (x5_1 < (l1.length : Int)) = true := decide_eq_true c11
        clear c11
        obtain ⟨bq12, hbq12⟩ : ∃ b_ : Bool, b_ = (rdOf false l1 x5_1) := ⟨_, rfl⟩
        replace H : (if bq12 = true then (some false) else (saturatelaw41_agrees.l0 k1 l0 l1 (wrap64 (x5_1 + 1)))) = some r := by rw [← hbq12] at H; exact H
        have Nbq12 := Aside0.mk hbq12
        clear hbq12
        by_cases c13 : bq12 = true
        ·subst c13
         have H1 : (some false) = some r := by rw [if_pos rfl] at H; exact H
         clear H
         have H := H1
         clear H1
         obtain rfl := Option.some.inj H
         have p374 : 0 ≤ (x5_1 : Int) := of_decide_eq_true (by first | (with_reducible assumption) | assumption)
         have q374 : x5_1 < (l0.length : Int) := of_decide_eq_true (by first | (with_reducible assumption) | assumption)
         obtain ⟨ad374, e374, hx374_0⟩ := Kd.at_int HR0.out x5_1 p374 q374
         cases e374
         replace p374 := eq_true p374
         replace q374 := eq_true q374
         have p378 : 0 ≤ (x5_1 : Int) := of_decide_eq_true (by first | (with_reducible assumption) | assumption)
         have q378 : x5_1 < (l0.length : Int) := of_decide_eq_true (by first | (with_reducible assumption) | assumption)
         obtain ⟨ad378, e378, hx378_0⟩ := Kd.at_int HR0.out x5_1 p378 q378
         obtain rfl : ad374 = ad378 := (by injection e378)
         replace p378 := eq_true p378
         replace q378 := eq_true q378
         have p379 : 0 ≤ (x5_1 : Int) := of_decide_eq_true (by first | (with_reducible assumption) | assumption)
         have q379 : x5_1 < (l1.length : Int) := of_decide_eq_true (by first | (with_reducible assumption) | assumption)
         obtain ⟨ad379, e379, hx379_0⟩ := Kd.at_bool HR1.out x5_1 p379 q379
         (try rw [← Nbq12.out] at hx379_0)
         cases e379
         replace p379 := eq_true p379
         replace q379 := eq_true q379
         go_wp2
         go_ret
         exact ⟨by first | rfl | (simp; done) | (simp [*]; done), by repeat (first | exact Drawn0.refl _ | apply Drawn0.step)⟩
        ·replace c13 := Bool.eq_false_iff.mpr c13
         subst c13
         have H1 : (saturatelaw41_agrees.l0 k1 l0 l1 (wrap64 (x5_1 + 1))) = some r := by rw [if_neg (show ¬ (false = true) by decide)] at H; exact H
         clear H
         have H := H1
         clear H1
         have H' := Aside0.mk H
         clear H
         have p374 : 0 ≤ (x5_1 : Int) := of_decide_eq_true (by first | (with_reducible assumption) | assumption)
         have q374 : x5_1 < (l0.length : Int) := of_decide_eq_true (by first | (with_reducible assumption) | assumption)
         obtain ⟨ad374, e374, hx374_0⟩ := Kd.at_int HR0.out x5_1 p374 q374
         cases e374
         replace p374 := eq_true p374
         replace q374 := eq_true q374
         have p378 : 0 ≤ (x5_1 : Int) := of_decide_eq_true (by first | (with_reducible assumption) | assumption)
         have q378 : x5_1 < (l0.length : Int) := of_decide_eq_true (by first | (with_reducible assumption) | assumption)
         obtain ⟨ad378, e378, hx378_0⟩ := Kd.at_int HR0.out x5_1 p378 q378
         obtain rfl : ad374 = ad378 := (by injection e378)
         replace p378 := eq_true p378
         replace q378 := eq_true q378
         have p379 : 0 ≤ (x5_1 : Int) := of_decide_eq_true (by first | (with_reducible assumption) | assumption)
         have q379 : x5_1 < (l1.length : Int) := of_decide_eq_true (by first | (with_reducible assumption) | assumption)
         obtain ⟨ad379, e379, hx379_0⟩ := Kd.at_bool HR1.out x5_1 p379 q379
         (try rw [← Nbq12.out] at hx379_0)
         cases e379
         replace p379 := eq_true p379
         replace q379 := eq_true q379
         go_wp2
         go_roundg k1
         case measure => have := HK1.out; omega
         case rel => exact ⟨(wrap64 (x5_1 + 1)), (by first | rfl | (simp; done) | (simp [*]; done)), H', ⟨by have := HK1.out; omega⟩, by repeat (first | exact Drawn0.refl _ | apply Drawn0.step)⟩
       ·rw [if_neg c11] at H
        exact absurd H (by simp)
      ·rw [if_neg c10] at H
       have c10b0 : ((rd l0 x5_1) == 0) = false := beq_eq_false_iff_ne.mpr c10
       have c10b1 : ((rd l0 x5_1) != 0) = true := bne_iff_ne.mpr c10
       have H' := Aside0.mk H
       clear H
       have p374 : 0 ≤ (x5_1 : Int) := of_decide_eq_true (by first | (with_reducible assumption) | assumption)
       have q374 : x5_1 < (l0.length : Int) := of_decide_eq_true (by first | (with_reducible assumption) | assumption)
       obtain ⟨ad374, e374, hx374_0⟩ := Kd.at_int HR0.out x5_1 p374 q374
       cases e374
       replace p374 := eq_true p374
       replace q374 := eq_true q374
       have p378 : 0 ≤ (x5_1 : Int) := of_decide_eq_true (by first | (with_reducible assumption) | assumption)
       have q378 : x5_1 < (l0.length : Int) := of_decide_eq_true (by first | (with_reducible assumption) | assumption)
       obtain ⟨ad378, e378, hx378_0⟩ := Kd.at_int HR0.out x5_1 p378 q378
       obtain rfl : ad374 = ad378 := (by injection e378)
       replace p378 := eq_true p378
       replace q378 := eq_true q378
       go_wp2
       go_roundg k1
       case measure => have := HK1.out; omega
       case rel => exact ⟨(wrap64 (x5_1 + 1)), (by first | rfl | (simp; done) | (simp [*]; done)), H', ⟨by have := HK1.out; omega⟩, by repeat (first | exact Drawn0.refl _ | apply Drawn0.step)⟩
    ·rw [if_neg c4] at H
     exact absurd H (by simp)
   ·rw [if_neg c3] at H
    have c3b0 : decide (x5_1 < (l0.length : Int)) = false := decide_eq_false c3
    clear c3
    obtain rfl := Option.some.inj H
    go_wp2
    go_ret
    exact ⟨by first | rfl | (simp; done) | (simp [*]; done), by repeat (first | exact Drawn0.refl _ | apply Drawn0.step)⟩

end Go.Proofs.Ytiigmklolapckaa.QAll
