/- What functions of the translation compute, and that the machine's calls of them come to that: printed by this session's own program, a variant of the print. No condition. -/
import Derived.Test.YtfocgjcfalhglaaQAllx0
import Derived.Test.YtfocgjcfalhglaaQAllx1
import Derived.Test.YtfocgjcfalhglaaQAllx2
import Derived.Test.YtfocgjcfalhglaaQAllx4
import Derived.Test.YtfocgjcfalhglaaQAllx5
import Derived.Test.YtfocgjcfalhglaaQAllx9
namespace Go.Proofs.Ytfocgjcfalhglaa.QAll
open Go.RowKit Go.Proofs.YtfocgjcfalhglaaW.PrintWords Go.Proofs.YtfocgjcfalhglaaW.PrintLast Go.Proofs.YtfocgjcfalhglaaW.PrintMore
attribute [local go_sem] max2_int min2_int max_two min_two max_three min_three max_four min_four   -- for this text's walks alone
set_option linter.unusedVariables false
set_option linter.unusedSimpArgs false

attribute [local go_sem high] eqA26
/-! ### saturatelaw32_SchedulerStates: function 3 -/
mutual
def saturatelaw32_SchedulerStates.l0 : Nat → Int → List (S26) → List (S26) → List (S26) → Int → Option (Bool)
  | 0, _, _, _, _, _ => none
  | k + 1, x3, x4, x11, x12, x13 => if x13 < (x11.length : Int) then (if 0 ≤ x13 then (if x13 < (x12.length : Int) then (if (!(((rd_T26 x11 x13).f0) == ((rd_T26 x12 x13).f0)) || (!(((rd_T26 x11 x13).f1) == ((rd_T26 x12 x13).f1)) || (!(((rd_T26 x11 x13).f2) == ((rd_T26 x12 x13).f2)) || (!(((rd_T26 x11 x13).f3) == ((rd_T26 x12 x13).f3)))))) = true then (some false) else (saturatelaw32_SchedulerStates.l0 k x3 x4 x11 x12 (wrap64 (x13 + 1)))) else (none)) else (none)) else (saturatelaw32_SchedulerStates.l1 k x3 x4 0)
def saturatelaw32_SchedulerStates.l1 : Nat → Int → List (S26) → Int → Option (Bool)
  | 0, _, _, _ => none
  | k + 1, x3, x4, x14 => if x14 < (x4.length : Int) then (if 0 ≤ x14 then ((scheduler_Ready.f ((rd_T26 x4 x14).f0) ((rd_T26 x4 x14).f1) ((rd_T26 x4 x14).f2) ((rd_T26 x4 x14).f3) x3).bind fun t279 => ((saturateref32_Ready.f ((rd_T26 x4 x14).f0) ((rd_T26 x4 x14).f1) ((rd_T26 x4 x14).f2) ((rd_T26 x4 x14).f3) x3).bind fun t281 => (if (t279 != t281) = true then (some false) else ((scheduler_Threshold.f ((rd_T26 x4 x14).f0) ((rd_T26 x4 x14).f1) ((rd_T26 x4 x14).f2) ((rd_T26 x4 x14).f3)).bind fun t283 => ((saturateref32_Threshold.f k ((rd_T26 x4 x14).f0) ((rd_T26 x4 x14).f1) ((rd_T26 x4 x14).f2) ((rd_T26 x4 x14).f3)).bind fun t285 => (if t283 = t285 then (saturatelaw32_SchedulerStates.l1 k x3 x4 (wrap64 (x14 + 1))) else (some false))))))) else (none)) else ((scheduler_Banned.f k x4 x3).bind fun t275 => ((saturateref32_Banned.f k x4 x3).bind fun t276 => (if t275 = t276 then ((saturatelaw32_lives.f k).bind fun t277 => (some t277)) else (some false))))
end
def saturatelaw32_SchedulerStates.f (k : Nat) (a0 : Int) (a1 : Int) (a2 : Int) (a3 : Int) (l4 : List (S26)) : Option (Bool) := if (l4.length : Int) > 200 then ((saturatelaw32_lives.f k).bind fun t266 => (some t266)) else ((scheduler_New.f k a0 a1 a2).bind fun t267 => ((saturateref32_New.f k a0 a1 a2).bind fun t270 => (if (t267.length : Int) = (t270.length : Int) then (saturatelaw32_SchedulerStates.l0 k a3 l4 t267 t270 0) else (some false))))
theorem saturatelaw32_SchedulerStates.mono_l : ∀ k, (∀ y0 y1 y2 y3 y4, LeO (saturatelaw32_SchedulerStates.l0 k y0 y1 y2 y3 y4) (saturatelaw32_SchedulerStates.l0 (k + 1) y0 y1 y2 y3 y4)) ∧ (∀ y0 y1 y2, LeO (saturatelaw32_SchedulerStates.l1 k y0 y1 y2) (saturatelaw32_SchedulerStates.l1 (k + 1) y0 y1 y2))
  | 0 => ⟨fun _ _ _ _ _ r h => by simp [saturatelaw32_SchedulerStates.l0] at h, fun _ _ _ r h => by simp [saturatelaw32_SchedulerStates.l1] at h⟩
  | k + 1 => by
    obtain ⟨ih0, ih1⟩ := saturatelaw32_SchedulerStates.mono_l k
    refine ⟨?_, ?_⟩
    · intro y0 y1 y2 y3 y4
      unfold saturatelaw32_SchedulerStates.l0
      repeat' first
      | (with_reducible exact ih0 _ _ _ _ _)
      | (with_reducible exact ih1 _ _ _)
      | (with_reducible exact saturatelaw32_lives.mono _)
      | (with_reducible exact saturateref32_Banned.mono _ _ _)
      | (with_reducible exact saturateref32_New.mono _ _ _ _)
      | (with_reducible exact saturateref32_Threshold.mono _ _ _ _ _)
      | (with_reducible exact scheduler_Banned.mono _ _ _)
      | (with_reducible exact scheduler_New.mono _ _ _ _)
      | (with_reducible exact LeO.refl _)
      | (with_reducible exact LeO.none _)
      | (with_reducible refine LeO.ite ?_ ?_)
      | (with_reducible refine LeO.bind ?_ (fun _ => ?_))
      | exact ih0 _ _ _ _ _
      | exact ih1 _ _ _
      | exact saturatelaw32_lives.mono _
      | exact saturateref32_Banned.mono _ _ _
      | exact saturateref32_New.mono _ _ _ _
      | exact saturateref32_Threshold.mono _ _ _ _ _
      | exact scheduler_Banned.mono _ _ _
      | exact scheduler_New.mono _ _ _ _
      | exact LeO.none _
      | refine LeO.ite ?_ ?_
      | refine LeO.bind ?_ (fun _ => ?_)
    · intro y0 y1 y2
      unfold saturatelaw32_SchedulerStates.l1
      repeat' first
      | (with_reducible exact ih0 _ _ _ _ _)
      | (with_reducible exact ih1 _ _ _)
      | (with_reducible exact saturatelaw32_lives.mono _)
      | (with_reducible exact saturateref32_Banned.mono _ _ _)
      | (with_reducible exact saturateref32_New.mono _ _ _ _)
      | (with_reducible exact saturateref32_Threshold.mono _ _ _ _ _)
      | (with_reducible exact scheduler_Banned.mono _ _ _)
      | (with_reducible exact scheduler_New.mono _ _ _ _)
      | (with_reducible exact LeO.refl _)
      | (with_reducible exact LeO.none _)
      | (with_reducible refine LeO.ite ?_ ?_)
      | (with_reducible refine LeO.bind ?_ (fun _ => ?_))
      | exact ih0 _ _ _ _ _
      | exact ih1 _ _ _
      | exact saturatelaw32_lives.mono _
      | exact saturateref32_Banned.mono _ _ _
      | exact saturateref32_New.mono _ _ _ _
      | exact saturateref32_Threshold.mono _ _ _ _ _
      | exact scheduler_Banned.mono _ _ _
      | exact scheduler_New.mono _ _ _ _
      | exact LeO.none _
      | refine LeO.ite ?_ ?_
      | refine LeO.bind ?_ (fun _ => ?_)
theorem saturatelaw32_SchedulerStates.mono : ∀ a0 a1 a2 a3 a4 k, LeO (saturatelaw32_SchedulerStates.f k a0 a1 a2 a3 a4) (saturatelaw32_SchedulerStates.f (k + 1) a0 a1 a2 a3 a4) := by
  intro a0 a1 a2 a3 a4 k
  obtain ⟨ih0, ih1⟩ := saturatelaw32_SchedulerStates.mono_l k
  unfold saturatelaw32_SchedulerStates.f
  repeat' first
      | (with_reducible exact ih0 _ _ _ _ _)
      | (with_reducible exact ih1 _ _ _)
      | (with_reducible exact saturatelaw32_lives.mono _)
      | (with_reducible exact saturateref32_Banned.mono _ _ _)
      | (with_reducible exact saturateref32_New.mono _ _ _ _)
      | (with_reducible exact saturateref32_Threshold.mono _ _ _ _ _)
      | (with_reducible exact scheduler_Banned.mono _ _ _)
      | (with_reducible exact scheduler_New.mono _ _ _ _)
      | (with_reducible exact LeO.refl _)
      | (with_reducible exact LeO.none _)
      | (with_reducible refine LeO.ite ?_ ?_)
      | (with_reducible refine LeO.bind ?_ (fun _ => ?_))
      | exact ih0 _ _ _ _ _
      | exact ih1 _ _ _
      | exact saturatelaw32_lives.mono _
      | exact saturateref32_Banned.mono _ _ _
      | exact saturateref32_New.mono _ _ _ _
      | exact saturateref32_Threshold.mono _ _ _ _ _
      | exact scheduler_Banned.mono _ _ _
      | exact scheduler_New.mono _ _ _ _
      | exact LeO.none _
      | refine LeO.ite ?_ ?_
      | refine LeO.bind ?_ (fun _ => ?_)
def saturatelaw32_SchedulerStates.T9 : Bool × List (List Nat × List Nat) := (true, [([], []), ([], []), ([0, 1], [0, 1]), ([2], [2]), ([], []), ([], []), ([4, 5], [4, 5]), ([6], [6]), ([3, 7], [3, 7])])
def saturatelaw32_SchedulerStates.B9 : List Nat := [0, 0, 3, 7, 0, 0, 48, 112, 255]
theorem saturatelaw32_SchedulerStates.tab9 : rtab .any (opsOf Try.f3 9) = saturatelaw32_SchedulerStates.T9 := by kernel_rfl
theorem saturatelaw32_SchedulerStates.bits9 : waitsOk saturatelaw32_SchedulerStates.T9.2 saturatelaw32_SchedulerStates.B9 = true := by kernel_rfl
def saturatelaw32_SchedulerStates.T14 : Bool × List (List Nat × List Nat) := (true, [([], []), ([], []), ([0, 1], [0, 1]), ([2], [2]), ([], []), ([3, 4], [3, 4]), ([], []), ([], []), ([6, 7], [6, 7]), ([8], [8]), ([], []), ([9, 10, 5], [9, 10]), ([5, 11], [5, 11]), ([12, 11], [12]), ([13], [13]), ([13], [13]), ([14, 15, 13], [13, 14, 15]), ([16, 13], [13, 16]), ([17, 13, 13], [13, 17]), ([13], [13]), ([13], [13]), ([19, 20, 13], [13, 19, 20]), ([21, 13], [13, 21]), ([22, 18, 13], [13, 22]), ([18, 23, 13], [13, 18, 23]), ([13, 24], [13, 24])])
def saturatelaw32_SchedulerStates.B14 : List Nat := [0, 0, 3, 7, 0, 31, 0, 0, 192, 448, 0, 2047, 4095, 8191, 16383, 16383, 65535, 131071, 262143, 16383, 16383, 1589247, 3686399, 8388607, 16777215, 33554431]
theorem saturatelaw32_SchedulerStates.tab14 : rtab .any (opsOf Try.f3 14) = saturatelaw32_SchedulerStates.T14 := by kernel_rfl
theorem saturatelaw32_SchedulerStates.bits14 : waitsOk saturatelaw32_SchedulerStates.T14.2 saturatelaw32_SchedulerStates.B14 = true := by kernel_rfl
set_option maxHeartbeats 8000000 in
set_option maxRecDepth 100000 in
theorem saturatelaw32_SchedulerStates.calls (k : Nat) (a0 : Int) (a1 : Int) (a2 : Int) (a3 : Int) (A4 : Option Addr) (c4 : Nat) (l4 : List (S26)) (r : Bool) (w : World) (hr4 : Kd.C k26 w A4 l4.length l4) (hc4 : l4.length ≤ c4) (h : saturatelaw32_SchedulerStates.f k a0 a1 a2 a3 l4 = some r) (hrT0 : r = true) :
    Calls Try.prog 3 #[.int .i64 a0, .int .i64 a1, .int .i64 a2, .int .i64 a3, .slice A4 l4.length c4] w fun e w' => e = .returned (.bool r) ∧ Below w.heap.size w w' := by
  have hrT := Aside0.mk hrT0
  clear hrT0
  have hu26 := Try.underlying26
  have HR4 := Aside0.mk hr4
  have HC4 := Aside0.mk hc4
  clear hr4 hc4
  have HB := Aside0.mk (Below.refl w.heap.size w)
  have H : (if (l4.length : Int) > 200 then ((saturatelaw32_lives.f k).bind fun t266 => (some t266)) else ((scheduler_New.f k a0 a1 a2).bind fun t267 => ((saturateref32_New.f k a0 a1 a2).bind fun t270 => (if (t267.length : Int) = (t270.length : Int) then (saturatelaw32_SchedulerStates.l0 k a3 l4 t267 t270 0) else (some false))))) = some r := h
  clear h
  by_cases c6 : (l4.length : Int) > 200
  · rw [if_pos c6] at H
    have c6b0 : decide (200 < (l4.length : Int)) = true := decide_eq_true c6
    have c6b1 : decide (200 < l4.length) = true := decide_eq_true (by omega)
    clear c6
    replace H := Option.bind_eq_some_iff.mp H
    obtain ⟨t266, A70, H⟩ := H
    replace H : (some t266) = some r := H
    have A7 := Aside0.mk A70
    clear A70
    obtain rfl := Option.some.inj H
    go_enter Try.func3, Try.ntmps3
    go_wp2_with (first | ((with_reducible refine gate_callee (f := 8) rfl ?_); refine goesL_ (some 18) rfl rfl Try.func8 (by kernel_rfl) rfl #[] rfl (by (try simp only [List.map_toArray, List.map_cons, List.map_nil]); first | done | rfl | (simp only [List.length_drop, List.length_take]; rfl)) ?_; (with_reducible refine (saturatelaw32_lives.calls k  t266 _ A7.out).mono ?_); rintro e w8 ⟨rfl, hb⟩; refine ⟨_, rfl, ?_⟩; have n0_ := Aside0.mk (below_step (by repeat (first | (with_reducible first | exact HB.out | apply below_alloc | apply pw_below_drewN | apply below_drew1) | exact HB.out)) hb); clear HB; have HB := n0_; clear n0_; (try clear hb); (try clear hb2); (try clear hk); (try clear hi)))
    go_ret
    exact ⟨by first | rfl | (simp [errW_none, errW_some] <;> rfl) | (simp [*, errW_none, errW_some] <;> rfl), by repeat (first | (with_reducible first | exact HB.out | apply below_alloc | apply pw_below_drewN | apply below_drew1) | exact HB.out)⟩
  · rw [if_neg c6] at H
    have c6b0 : decide (200 < (l4.length : Int)) = false := decide_eq_false c6
    have c6b1 : decide (200 < l4.length) = false := decide_eq_false (by omega)
    clear c6
    replace H := Option.bind_eq_some_iff.mp H
    obtain ⟨t267, A90, H⟩ := H
    replace H : ((saturateref32_New.f k a0 a1 a2).bind fun t270 => (if (t267.length : Int) = (t270.length : Int) then (saturatelaw32_SchedulerStates.l0 k a3 l4 t267 t270 0) else (some false))) = some r := H
    have A9 := Aside0.mk A90
    clear A90
    replace H := Option.bind_eq_some_iff.mp H
    obtain ⟨t270, A100, H⟩ := H
    replace H : (if (t267.length : Int) = (t270.length : Int) then (saturatelaw32_SchedulerStates.l0 k a3 l4 t267 t270 0) else (some false)) = some r := H
    have A10 := Aside0.mk A100
    clear A100
    by_cases c11 : (t267.length : Int) = (t270.length : Int)
    · rw [if_pos c11] at H
      have c11b0 : ((t267.length : Int) == (t270.length : Int)) = true := beq_iff_eq.mpr c11
      have c11b1 : ((t267.length : Int) != (t270.length : Int)) = false := bne_eq_false_iff_eq.mpr c11
      have c11b2 : (t267.length == t270.length) = true := by first | simpa using c11 | (simp at c11 ⊢; omega)
      clear c11
      have H' := Aside0.mk H
      clear H
      go_enter Try.func3, Try.ntmps3
      go_wp2_with (first | ((with_reducible refine gate_callee (f := 9) rfl ?_); refine goesL_ (some 22) rfl rfl Try.func9 (by kernel_rfl) rfl #[.int .i64 a0, .int .i64 a1, .int .i64 a2] rfl (by (try simp only [List.map_toArray, List.map_cons, List.map_nil]); first | done | rfl | (simp only [List.length_drop, List.length_take]; rfl)) ?_; (with_reducible refine (scheduler_New.calls k a0 a1 a2 t267 _ A9.out).mono ?_); rintro e w12 ⟨v268, rfl, ho0, hb⟩; refine ⟨_, rfl, ?_⟩; have n0_ := Aside0.mk (Kd.R_lower ho0 (below_size (by repeat (first | (with_reducible first | exact HB.out | apply below_alloc | apply pw_below_drewN | apply below_drew1) | exact HB.out)))); have n1_ := Aside0.mk (below_step (by repeat (first | (with_reducible first | exact HB.out | apply below_alloc | apply pw_below_drewN | apply below_drew1) | exact HB.out)) hb); clear HB; have HO269 := n0_; have HB := n1_; clear n0_ n1_; (try clear hb); (try clear hb2); (try clear hk); (try clear hi); (try clear ho0)) | ((with_reducible refine gate_callee (f := 10) rfl ?_); refine goesL_ (some 26) rfl rfl Try.func10 (by kernel_rfl) rfl #[.int .i64 a0, .int .i64 a1, .int .i64 a2] rfl (by (try simp only [List.map_toArray, List.map_cons, List.map_nil]); first | done | rfl | (simp only [List.length_drop, List.length_take]; rfl)) ?_; (with_reducible refine (saturateref32_New.calls k a0 a1 a2 t270 _ A10.out).mono ?_); rintro e w13 ⟨v271, rfl, ho0, hb⟩; refine ⟨_, rfl, ?_⟩; have n0_ := Aside0.mk (Kd.R_elder' (by (with_reducible repeat (first | apply Kd.R_alloc | apply Kd.R_drewN | apply Kd.R_drew)); exact HO269.out) (Kd.R_base ho0) hb); have n1_ := Aside0.mk (Kd.R_lower (Kd.R_new' ho0 (Kd.R_lt (by (with_reducible repeat (first | apply Kd.R_alloc | apply Kd.R_drewN | apply Kd.R_drew)); exact HO269.out))) (below_size (by repeat (first | (with_reducible first | exact HB.out | apply below_alloc | apply pw_below_drewN | apply below_drew1) | exact HB.out)))); have n2_ := Aside0.mk (below_step (by repeat (first | (with_reducible first | exact HB.out | apply below_alloc | apply pw_below_drewN | apply below_drew1) | exact HB.out)) hb); clear HO269; clear HB; have HO269 := n0_; have HO272 := n1_; have HB := n2_; clear n0_ n1_ n2_; (try clear hb); (try clear hb2); (try clear hk); (try clear hi); (try clear ho0); obtain ⟨Ao14, co14, eo14⟩ := Kd.R_slice HO269.out; subst eo14; obtain ⟨Ao15, co15, eo15⟩ := Kd.R_slice HO272.out; subst eo15))
      go_loopg [13] k (fun kq v13 w' => ∃ (x13_1 : Int), v13 = .int .i64 x13_1 ∧ Aside0 (saturatelaw32_SchedulerStates.l0 kq a3 l4 t267 t270 x13_1 = some r) ∧ Aside0 (kq ≤ k) ∧ Aside0 (Kd.R k26 26 w' w.heap.size (fun k_ => some k_ ≠ ((.slice Ao15 t270.length co15) : Value).ownBlock) (.slice Ao14 t267.length co14) t267) ∧ Aside0 (Kd.R k26 26 w' w.heap.size (fun k_ => some k_ ≠ ((.slice Ao14 t267.length co14) : Value).ownBlock) (.slice Ao15 t270.length co15) t270) ∧ Aside0 (Below w.heap.size w w'))
      case atStart => exact ⟨(0), (by first | rfl | (simp; done) | (simp [*]; done)), H', ⟨Nat.le_refl _⟩, ⟨by (with_reducible repeat (first | apply Kd.R_alloc | apply Kd.R_drewN | apply Kd.R_drew)); exact Kd.R_mono HO269.out (fun _ hk => hk.2)⟩, ⟨by (with_reducible repeat (first | apply Kd.R_alloc | apply Kd.R_drewN | apply Kd.R_drew)); exact Kd.R_mono HO272.out (fun _ hk => hk.2)⟩, ⟨by repeat (first | (with_reducible first | exact HB.out | apply below_alloc | apply pw_below_drewN | apply below_drew1) | exact HB.out)⟩⟩
      case round =>
        clear H'
        try clear c1
        try clear p2
        try clear c3
        try clear c4
        try clear c6
        try clear c6b0
        try clear c6b1
        try clear c8
        try clear c9
        try clear c10
        try clear c11
        try clear c11b0
        try clear c11b1
        try clear c11b2
        obtain ⟨x13_1, rfl, HA, HK1, HO_11, HO_12, HB⟩ := hrel
        cases gk with
        | zero => exact absurd HA.out (by simp [saturatelaw32_SchedulerStates.l0])
        | succ k1 =>
          have H := HA.out
          clear HA
          simp only [saturatelaw32_SchedulerStates.l0] at H
          by_cases c16 : x13_1 < (t267.length : Int)
          · rw [if_pos c16] at H
            have c16b0 : decide (x13_1 < (t267.length : Int)) = true := decide_eq_true c16
            clear c16
            by_cases c17 : 0 ≤ x13_1
            · rw [if_pos c17] at H
              have c17b0 : decide (0 ≤ x13_1) = true := decide_eq_true c17
              clear c17
              by_cases c18 : x13_1 < (t270.length : Int)
              · rw [if_pos c18] at H
                have c18b0 : decide (x13_1 < (t270.length : Int)) = true := decide_eq_true c18
                clear c18
                by_cases c19 : (!(((rd_T26 t267 x13_1).f0) == ((rd_T26 t270 x13_1).f0)) || (!(((rd_T26 t267 x13_1).f1) == ((rd_T26 t270 x13_1).f1)) || (!(((rd_T26 t267 x13_1).f2) == ((rd_T26 t270 x13_1).f2)) || (!(((rd_T26 t267 x13_1).f3) == ((rd_T26 t270 x13_1).f3)))))) = true
                · rw [if_pos c19] at H
                  have c19b0 : (!(((rd_T26 t267 x13_1).f0) == ((rd_T26 t270 x13_1).f0)) || (!(((rd_T26 t267 x13_1).f1) == ((rd_T26 t270 x13_1).f1)) || (!(((rd_T26 t267 x13_1).f2) == ((rd_T26 t270 x13_1).f2)) || (!(((rd_T26 t267 x13_1).f3) == ((rd_T26 t270 x13_1).f3)))))) = true := c19
                  clear c19
                  exact absurd ((Option.some.inj H).trans hrT.out) (by decide)
                · rw [if_neg c19] at H
                  have c19b0 : (!(((rd_T26 t267 x13_1).f0) == ((rd_T26 t270 x13_1).f0)) || (!(((rd_T26 t267 x13_1).f1) == ((rd_T26 t270 x13_1).f1)) || (!(((rd_T26 t267 x13_1).f2) == ((rd_T26 t270 x13_1).f2)) || (!(((rd_T26 t267 x13_1).f3) == ((rd_T26 t270 x13_1).f3)))))) = false := by simpa using c19
                  clear c19
                  have H' := Aside0.mk H
                  clear H
                  try go_wp2
                  have n0_ := Aside0.mk (Kd.R_drew HO_11.out)
                  have n1_ := Aside0.mk (Kd.R_drew HO_12.out)
                  have n2_ := Aside0.mk (below_drew1 HB.out)
                  clear HO_11
                  clear HO_12
                  clear HB
                  have HO_11 := n0_
                  have HO_12 := n1_
                  have HB := n2_
                  clear n0_ n1_ n2_
                  have p273 : 0 ≤ (x13_1 : Int) := of_decide_eq_true (by first | (with_reducible assumption) | assumption)
                  have q273 : x13_1 < (t267.length : Int) := of_decide_eq_true (by first | (with_reducible assumption) | assumption)
                  obtain ⟨ad273, e273, hx273_0, hx273_1, hx273_2, hx273_3⟩ := at_T26 (Kd.R_reads' HO_11.out).2.2 x13_1 p273 q273
                  cases e273
                  replace p273 := eq_true p273
                  replace q273 := eq_true q273
                  have p274 : 0 ≤ (x13_1 : Int) := of_decide_eq_true (by first | (with_reducible assumption) | assumption)
                  have q274 : x13_1 < (t270.length : Int) := of_decide_eq_true (by first | (with_reducible assumption) | assumption)
                  obtain ⟨ad274, e274, hx274_0, hx274_1, hx274_2, hx274_3⟩ := at_T26 (Kd.R_reads' HO_12.out).2.2 x13_1 p274 q274
                  cases e274
                  replace p274 := eq_true p274
                  replace q274 := eq_true q274
                  refine start_ (n := 9) (S := fun w' => w'.cell? (ad273.add ((x13_1).toNat * 4)) = some (.int .i64 ((rd_T26 t267 x13_1).f0)) ∧ w'.cell? ⟨(ad273.add ((x13_1).toNat * 4)).block, (ad273.add ((x13_1).toNat * 4)).off + 1, none⟩ = some (.int .i64 ((rd_T26 t267 x13_1).f1)) ∧ w'.cell? ⟨(ad273.add ((x13_1).toNat * 4)).block, (ad273.add ((x13_1).toNat * 4)).off + 2, none⟩ = some (.int .i64 ((rd_T26 t267 x13_1).f2)) ∧ w'.cell? ⟨(ad273.add ((x13_1).toNat * 4)).block, (ad273.add ((x13_1).toNat * 4)).off + 3, none⟩ = some (.int .i64 ((rd_T26 t267 x13_1).f3)) ∧ w'.cell? (ad274.add ((x13_1).toNat * 4)) = some (.int .i64 ((rd_T26 t270 x13_1).f0)) ∧ w'.cell? ⟨(ad274.add ((x13_1).toNat * 4)).block, (ad274.add ((x13_1).toNat * 4)).off + 1, none⟩ = some (.int .i64 ((rd_T26 t270 x13_1).f1)) ∧ w'.cell? ⟨(ad274.add ((x13_1).toNat * 4)).block, (ad274.add ((x13_1).toNat * 4)).off + 2, none⟩ = some (.int .i64 ((rd_T26 t270 x13_1).f2)) ∧ w'.cell? ⟨(ad274.add ((x13_1).toNat * 4)).block, (ad274.add ((x13_1).toNat * 4)).off + 3, none⟩ = some (.int .i64 ((rd_T26 t270 x13_1).f3))) (ds := []) #[false, false, false, false, false, false, false, false, false] (by kernel_rfl) rfl rfl ⟨hx273_0, hx273_1, hx273_2, hx273_3, hx274_0, hx274_1, hx274_2, hx274_3⟩ (fun hHeld => ?_); refine with_tabW saturatelaw32_SchedulerStates.tab9 saturatelaw32_SchedulerStates.bits9 (fun HT_ HW_ => ?_)
                  generalize wr.drew = w20 at HO_11 HO_12 HB hx273_0 hx273_1 hx273_2 hx273_3 hx274_0 hx274_1 hx274_2 hx274_3 hHeld ⊢
                  refine pure_ (i := 0) (N := some 38) (v := ?_) (a' := ?_) #[true, false, false, false, false, false, false, false, false] rfl rfl (any_of HT_.out (by kernel_rfl)) (fun _ _ _ h => h) (Or.inl ⟨by rfl, ?_⟩) ?_ ?_
                  rotate_left
                  · intro w'
                    go_simp
                    with_reducible rfl
                  rotate_left
                  · simp only [Act.put, List.setIfInBounds_toArray, List.set_cons_zero, List.set_cons_succ, i64_w, i32_w]
                    rfl
                  refine pure_ (i := 1) (N := some 39) (v := ?_) (a' := ?_) #[true, true, false, false, false, false, false, false, false] rfl rfl (any_of HT_.out (by kernel_rfl)) (fun _ _ _ h => h) (Or.inl ⟨by rfl, ?_⟩) ?_ ?_
                  rotate_left
                  · intro w'
                    go_simp
                    with_reducible rfl
                  rotate_left
                  · simp only [Act.put, List.setIfInBounds_toArray, List.set_cons_zero, List.set_cons_succ, i64_w, i32_w]
                    rfl
                  refine pure_ (i := 2) (N := some 40) (v := ?_) (a' := ?_) #[true, true, true, false, false, false, false, false, false] rfl rfl (any_of HT_.out (by kernel_rfl)) (fun _ _ _ h => h) (Or.inl ⟨by rfl, ?_⟩) ?_ ?_
                  rotate_left
                  · intro w'
                    go_simp
                    with_reducible rfl
                  rotate_left
                  · simp only [Act.put, List.setIfInBounds_toArray, List.set_cons_zero, List.set_cons_succ, i64_w, i32_w]
                    rfl
                  refine pure_ (i := 4) (N := some 42) (v := ?_) (a' := ?_) #[true, true, true, false, true, false, false, false, false] rfl rfl (any_of HT_.out (by kernel_rfl)) (fun _ _ _ h => h) (Or.inl ⟨by rfl, ?_⟩) ?_ ?_
                  rotate_left
                  · intro w'
                    go_simp
                    with_reducible rfl
                  rotate_left
                  · simp only [Act.put, List.setIfInBounds_toArray, List.set_cons_zero, List.set_cons_succ, i64_w, i32_w]
                    rfl
                  refine pure_ (i := 5) (N := some 43) (v := ?_) (a' := ?_) #[true, true, true, false, true, true, false, false, false] rfl rfl (any_of HT_.out (by kernel_rfl)) (fun _ _ _ h => h) (Or.inl ⟨by rfl, ?_⟩) ?_ ?_
                  rotate_left
                  · intro w'
                    go_simp
                    with_reducible rfl
                  rotate_left
                  · simp only [Act.put, List.setIfInBounds_toArray, List.set_cons_zero, List.set_cons_succ, i64_w, i32_w]
                    rfl
                  refine pure_ (i := 6) (N := some 44) (v := ?_) (a' := ?_) #[true, true, true, false, true, true, true, false, false] rfl rfl (any_of HT_.out (by kernel_rfl)) (fun _ _ _ h => h) (Or.inl ⟨by rfl, ?_⟩) ?_ ?_
                  rotate_left
                  · intro w'
                    go_simp
                    with_reducible rfl
                  rotate_left
                  · simp only [Act.put, List.setIfInBounds_toArray, List.set_cons_zero, List.set_cons_succ, i64_w, i32_w]
                    rfl
                  refine take_ (i := 3) (N := some 41) (v := ?_) (a' := ?_) #[true, true, true, true, true, true, true, false, false] rfl rfl (take_ofW HT_.out HW_.out (by kernel_rfl)) (fun _ _ _ h => h) (Or.inl ⟨by rfl, ?_⟩) hHeld ?_ ?_
                  rotate_left
                  · rintro w' ⟨s0, s1, s2, s3, s4, s5, s6, s7⟩
                    go_simp
                    with_reducible rfl
                  rotate_left
                  · simp only [Act.put, List.setIfInBounds_toArray, List.set_cons_zero, List.set_cons_succ, i64_w, i32_w]
                    rfl
                  refine take_ (i := 7) (N := some 45) (v := ?_) (a' := ?_) #[true, true, true, true, true, true, true, true, false] rfl rfl (take_ofW HT_.out HW_.out (by kernel_rfl)) (fun _ _ _ h => h) (Or.inl ⟨by rfl, ?_⟩) hHeld ?_ ?_
                  rotate_left
                  · rintro w' ⟨s0, s1, s2, s3, s4, s5, s6, s7⟩
                    go_simp
                    with_reducible rfl
                  rotate_left
                  · simp only [Act.put, List.setIfInBounds_toArray, List.set_cons_zero, List.set_cons_succ, i64_w, i32_w]
                    rfl
                  refine pure_ (i := 8) (N := some 46) (v := ?_) (a' := ?_) #[true, true, true, true, true, true, true, true, true] rfl rfl (any_of HT_.out (by kernel_rfl)) (fun _ _ _ h => h) (Or.inl ⟨by rfl, ?_⟩) ?_ ?_
                  rotate_left
                  · intro w'
                    go_simp
                    with_reducible rfl
                  rotate_left
                  · simp only [Act.put, List.setIfInBounds_toArray, List.set_cons_zero, List.set_cons_succ, i64_w, i32_w]
                    rfl
                  refine done_ (done_of HT_.out (by kernel_rfl)) ?_
                  try go_wp2
                  go_roundg k1
                  case measure => have := HK1.out; omega
                  case rel => exact ⟨(wrap64 (x13_1 + 1)), (by first | rfl | (simp; done) | (simp [*]; done)), H', ⟨by have := HK1.out; omega⟩, ⟨by (with_reducible repeat (first | apply Kd.R_alloc | apply Kd.R_drewN | apply Kd.R_drew)); exact HO_11.out⟩, ⟨by (with_reducible repeat (first | apply Kd.R_alloc | apply Kd.R_drewN | apply Kd.R_drew)); exact HO_12.out⟩, ⟨by repeat (first | (with_reducible first | exact HB.out | apply below_alloc | apply pw_below_drewN | apply below_drew1) | exact HB.out)⟩⟩
              · rw [if_neg c18] at H
                exact absurd H (by simp)
            · rw [if_neg c17] at H
              exact absurd H (by simp)
          · rw [if_neg c16] at H
            have c16b0 : decide (x13_1 < (t267.length : Int)) = false := decide_eq_false c16
            clear c16
            have H' := Aside0.mk H
            clear H
            go_wp2
            go_loopg [14] k1 (fun kq v14 w' => ∃ (x14_2 : Int), v14 = .int .i64 x14_2 ∧ Aside0 (saturatelaw32_SchedulerStates.l1 kq a3 l4 x14_2 = some r) ∧ Aside0 (kq ≤ k1) ∧ Aside0 (Below w.heap.size w w'))
            case atStart => exact ⟨(0), (by first | rfl | (simp; done) | (simp [*]; done)), H', ⟨Nat.le_refl _⟩, ⟨by repeat (first | (with_reducible first | exact HB.out | apply below_alloc | apply pw_below_drewN | apply below_drew1) | exact HB.out)⟩⟩
            case round =>
              clear H'
              try clear c1
              try clear p2
              try clear q2
              try clear hx2
              try clear c3
              try clear c4
              try clear c6
              try clear c6b0
              try clear c6b1
              try clear p6
              try clear c8
              try clear c9
              try clear c10
              try clear c11
              try clear c11b0
              try clear c11b1
              try clear c11b2
              try clear c16
              try clear c16b0
              try clear c17
              try clear c17b0
              try clear c18
              try clear c18b0
              try clear c19
              try clear c19b0
              try clear hx273_0
              try clear hx273_1
              try clear hx273_2
              try clear hx273_3
              try clear hx274_0
              try clear hx274_1
              try clear hx274_2
              try clear hx274_3
              try clear p2
              try clear p273
              try clear p274
              try clear q273
              try clear q274
              obtain ⟨x14_2, rfl, HA, HK2, HB⟩ := hrel
              cases gk with
              | zero => exact absurd HA.out (by simp [saturatelaw32_SchedulerStates.l1])
              | succ k2 =>
                have H := HA.out
                clear HA
                simp only [saturatelaw32_SchedulerStates.l1] at H
                by_cases c21 : x14_2 < (l4.length : Int)
                · rw [if_pos c21] at H
                  have c21b0 : decide (x14_2 < (l4.length : Int)) = true := decide_eq_true c21
                  clear c21
                  by_cases c22 : 0 ≤ x14_2
                  · rw [if_pos c22] at H
                    have c22b0 : decide (0 ≤ x14_2) = true := decide_eq_true c22
                    clear c22
                    replace H := Option.bind_eq_some_iff.mp H
                    obtain ⟨t279, A230, H⟩ := H
                    replace H : ((saturateref32_Ready.f ((rd_T26 l4 x14_2).f0) ((rd_T26 l4 x14_2).f1) ((rd_T26 l4 x14_2).f2) ((rd_T26 l4 x14_2).f3) a3).bind fun t281 => (if (t279 != t281) = true then (some false) else ((scheduler_Threshold.f ((rd_T26 l4 x14_2).f0) ((rd_T26 l4 x14_2).f1) ((rd_T26 l4 x14_2).f2) ((rd_T26 l4 x14_2).f3)).bind fun t283 => ((saturateref32_Threshold.f k2 ((rd_T26 l4 x14_2).f0) ((rd_T26 l4 x14_2).f1) ((rd_T26 l4 x14_2).f2) ((rd_T26 l4 x14_2).f3)).bind fun t285 => (if t283 = t285 then (saturatelaw32_SchedulerStates.l1 k2 a3 l4 (wrap64 (x14_2 + 1))) else (some false)))))) = some r := H
                    have A23 := Aside0.mk A230
                    clear A230
                    replace H := Option.bind_eq_some_iff.mp H
                    obtain ⟨t281, A240, H⟩ := H
                    replace H : (if (t279 != t281) = true then (some false) else ((scheduler_Threshold.f ((rd_T26 l4 x14_2).f0) ((rd_T26 l4 x14_2).f1) ((rd_T26 l4 x14_2).f2) ((rd_T26 l4 x14_2).f3)).bind fun t283 => ((saturateref32_Threshold.f k2 ((rd_T26 l4 x14_2).f0) ((rd_T26 l4 x14_2).f1) ((rd_T26 l4 x14_2).f2) ((rd_T26 l4 x14_2).f3)).bind fun t285 => (if t283 = t285 then (saturatelaw32_SchedulerStates.l1 k2 a3 l4 (wrap64 (x14_2 + 1))) else (some false))))) = some r := H
                    have A24 := Aside0.mk A240
                    clear A240
                    by_cases c25 : (t279 != t281) = true
                    · rw [if_pos c25] at H
                      have c25b0 : (t279 != t281) = true := c25
                      (try (have c25b1 : decide (t279 = t281) = false := by simpa using c25))
                      (try (have c25b2 : (t279 == t281) = false := by simpa using c25))
                      (try (have c25b3 : ¬ (t279 = t281) := by simpa using c25))
                      clear c25
                      exact absurd ((Option.some.inj H).trans hrT.out) (by decide)
                    · rw [if_neg c25] at H
                      have c25b0 : (t279 != t281) = false := by simpa using c25
                      (try (have c25b1 : decide (t279 = t281) = true := by simpa using c25))
                      (try (have c25b2 : (t279 == t281) = true := by simpa using c25))
                      clear c25
                      replace H := Option.bind_eq_some_iff.mp H
                      obtain ⟨t283, A260, H⟩ := H
                      replace H : ((saturateref32_Threshold.f k2 ((rd_T26 l4 x14_2).f0) ((rd_T26 l4 x14_2).f1) ((rd_T26 l4 x14_2).f2) ((rd_T26 l4 x14_2).f3)).bind fun t285 => (if t283 = t285 then (saturatelaw32_SchedulerStates.l1 k2 a3 l4 (wrap64 (x14_2 + 1))) else (some false))) = some r := H
                      have A26 := Aside0.mk A260
                      clear A260
                      replace H := Option.bind_eq_some_iff.mp H
                      obtain ⟨t285, A270, H⟩ := H
                      replace H : (if t283 = t285 then (saturatelaw32_SchedulerStates.l1 k2 a3 l4 (wrap64 (x14_2 + 1))) else (some false)) = some r := H
                      have A27 := Aside0.mk A270
                      clear A270
                      by_cases c28 : t283 = t285
                      · rw [if_pos c28] at H
                        have c28b0 : (t283 == t285) = true := beq_iff_eq.mpr c28
                        have c28b1 : (t283 != t285) = false := bne_eq_false_iff_eq.mpr c28
                        clear c28
                        have H' := Aside0.mk H
                        clear H
                        try go_wp2
                        have n0_ := Aside0.mk (below_drew1 HB.out)
                        clear HB
                        have HB := n0_
                        clear n0_
                        have p278 : 0 ≤ (x14_2 : Int) := of_decide_eq_true (by first | (with_reducible assumption) | assumption)
                        have q278 : x14_2 < (l4.length : Int) := of_decide_eq_true (by first | (with_reducible assumption) | assumption)
                        obtain ⟨ad278, e278, hx278_0, hx278_1, hx278_2, hx278_3⟩ := at_T26 HR4.out x14_2 p278 q278
                        have hw278_3 := hx278_3
                        have hw278_2 := hx278_2
                        have hw278_1 := hx278_1
                        have hw278_0 := hx278_0
                        cases e278
                        replace hx278_0 := (HB.out.cell (World.block_lt_of_cell? w _ hx278_0)).trans hx278_0
                        replace hx278_1 := (HB.out.cell (World.block_lt_of_cell? w _ hx278_1)).trans hx278_1
                        replace hx278_2 := (HB.out.cell (World.block_lt_of_cell? w _ hx278_2)).trans hx278_2
                        replace hx278_3 := (HB.out.cell (World.block_lt_of_cell? w _ hx278_3)).trans hx278_3
                        replace p278 := eq_true p278
                        replace q278 := eq_true q278
                        have p280 : 0 ≤ (x14_2 : Int) := of_decide_eq_true (by first | (with_reducible assumption) | assumption)
                        have q280 : x14_2 < (l4.length : Int) := of_decide_eq_true (by first | (with_reducible assumption) | assumption)
                        obtain ⟨ad280, e280, hx280_0, hx280_1, hx280_2, hx280_3⟩ := at_T26 HR4.out x14_2 p280 q280
                        have hw280_3 := hx280_3
                        have hw280_2 := hx280_2
                        have hw280_1 := hx280_1
                        have hw280_0 := hx280_0
                        obtain rfl : ad278 = ad280 := (by injection e280)
                        replace hx280_0 := (HB.out.cell (World.block_lt_of_cell? w _ hx280_0)).trans hx280_0
                        replace hx280_1 := (HB.out.cell (World.block_lt_of_cell? w _ hx280_1)).trans hx280_1
                        replace hx280_2 := (HB.out.cell (World.block_lt_of_cell? w _ hx280_2)).trans hx280_2
                        replace hx280_3 := (HB.out.cell (World.block_lt_of_cell? w _ hx280_3)).trans hx280_3
                        replace p280 := eq_true p280
                        replace q280 := eq_true q280
                        have p282 : 0 ≤ (x14_2 : Int) := of_decide_eq_true (by first | (with_reducible assumption) | assumption)
                        have q282 : x14_2 < (l4.length : Int) := of_decide_eq_true (by first | (with_reducible assumption) | assumption)
                        obtain ⟨ad282, e282, hx282_0, hx282_1, hx282_2, hx282_3⟩ := at_T26 HR4.out x14_2 p282 q282
                        have hw282_3 := hx282_3
                        have hw282_2 := hx282_2
                        have hw282_1 := hx282_1
                        have hw282_0 := hx282_0
                        obtain rfl : ad278 = ad282 := (by injection e282)
                        replace hx282_0 := (HB.out.cell (World.block_lt_of_cell? w _ hx282_0)).trans hx282_0
                        replace hx282_1 := (HB.out.cell (World.block_lt_of_cell? w _ hx282_1)).trans hx282_1
                        replace hx282_2 := (HB.out.cell (World.block_lt_of_cell? w _ hx282_2)).trans hx282_2
                        replace hx282_3 := (HB.out.cell (World.block_lt_of_cell? w _ hx282_3)).trans hx282_3
                        replace p282 := eq_true p282
                        replace q282 := eq_true q282
                        have p284 : 0 ≤ (x14_2 : Int) := of_decide_eq_true (by first | (with_reducible assumption) | assumption)
                        have q284 : x14_2 < (l4.length : Int) := of_decide_eq_true (by first | (with_reducible assumption) | assumption)
                        obtain ⟨ad284, e284, hx284_0, hx284_1, hx284_2, hx284_3⟩ := at_T26 HR4.out x14_2 p284 q284
                        have hw284_3 := hx284_3
                        have hw284_2 := hx284_2
                        have hw284_1 := hx284_1
                        have hw284_0 := hx284_0
                        obtain rfl : ad278 = ad284 := (by injection e284)
                        replace hx284_0 := (HB.out.cell (World.block_lt_of_cell? w _ hx284_0)).trans hx284_0
                        replace hx284_1 := (HB.out.cell (World.block_lt_of_cell? w _ hx284_1)).trans hx284_1
                        replace hx284_2 := (HB.out.cell (World.block_lt_of_cell? w _ hx284_2)).trans hx284_2
                        replace hx284_3 := (HB.out.cell (World.block_lt_of_cell? w _ hx284_3)).trans hx284_3
                        replace p284 := eq_true p284
                        replace q284 := eq_true q284
                        refine start_ (n := 26) (S := fun w' => w'.cell? (ad278.add ((x14_2).toNat * 4)) = some (.int .i64 ((rd_T26 l4 x14_2).f0)) ∧ w'.cell? ⟨(ad278.add ((x14_2).toNat * 4)).block, (ad278.add ((x14_2).toNat * 4)).off + 1, none⟩ = some (.int .i64 ((rd_T26 l4 x14_2).f1)) ∧ w'.cell? ⟨(ad278.add ((x14_2).toNat * 4)).block, (ad278.add ((x14_2).toNat * 4)).off + 2, none⟩ = some (.int .i64 ((rd_T26 l4 x14_2).f2)) ∧ w'.cell? ⟨(ad278.add ((x14_2).toNat * 4)).block, (ad278.add ((x14_2).toNat * 4)).off + 3, none⟩ = some (.int .i64 ((rd_T26 l4 x14_2).f3)) ∧ w'.cell? (ad278.add ((x14_2).toNat * 4)) = some (.int .i64 ((rd_T26 l4 x14_2).f0)) ∧ w'.cell? ⟨(ad278.add ((x14_2).toNat * 4)).block, (ad278.add ((x14_2).toNat * 4)).off + 1, none⟩ = some (.int .i64 ((rd_T26 l4 x14_2).f1)) ∧ w'.cell? ⟨(ad278.add ((x14_2).toNat * 4)).block, (ad278.add ((x14_2).toNat * 4)).off + 2, none⟩ = some (.int .i64 ((rd_T26 l4 x14_2).f2)) ∧ w'.cell? ⟨(ad278.add ((x14_2).toNat * 4)).block, (ad278.add ((x14_2).toNat * 4)).off + 3, none⟩ = some (.int .i64 ((rd_T26 l4 x14_2).f3)) ∧ w'.cell? (ad278.add ((x14_2).toNat * 4)) = some (.int .i64 ((rd_T26 l4 x14_2).f0)) ∧ w'.cell? ⟨(ad278.add ((x14_2).toNat * 4)).block, (ad278.add ((x14_2).toNat * 4)).off + 1, none⟩ = some (.int .i64 ((rd_T26 l4 x14_2).f1)) ∧ w'.cell? ⟨(ad278.add ((x14_2).toNat * 4)).block, (ad278.add ((x14_2).toNat * 4)).off + 2, none⟩ = some (.int .i64 ((rd_T26 l4 x14_2).f2)) ∧ w'.cell? ⟨(ad278.add ((x14_2).toNat * 4)).block, (ad278.add ((x14_2).toNat * 4)).off + 3, none⟩ = some (.int .i64 ((rd_T26 l4 x14_2).f3)) ∧ w'.cell? (ad278.add ((x14_2).toNat * 4)) = some (.int .i64 ((rd_T26 l4 x14_2).f0)) ∧ w'.cell? ⟨(ad278.add ((x14_2).toNat * 4)).block, (ad278.add ((x14_2).toNat * 4)).off + 1, none⟩ = some (.int .i64 ((rd_T26 l4 x14_2).f1)) ∧ w'.cell? ⟨(ad278.add ((x14_2).toNat * 4)).block, (ad278.add ((x14_2).toNat * 4)).off + 2, none⟩ = some (.int .i64 ((rd_T26 l4 x14_2).f2)) ∧ w'.cell? ⟨(ad278.add ((x14_2).toNat * 4)).block, (ad278.add ((x14_2).toNat * 4)).off + 3, none⟩ = some (.int .i64 ((rd_T26 l4 x14_2).f3))) (ds := []) #[false, false, false, false, false, false, false, false, false, false, false, false, false, false, false, false, false, false, false, false, false, false, false, false, false, false] (by kernel_rfl) rfl rfl ⟨((HB.out.cell (World.block_lt_of_cell? w _ hw278_0)).trans hw278_0), ((HB.out.cell (World.block_lt_of_cell? w _ hw278_1)).trans hw278_1), ((HB.out.cell (World.block_lt_of_cell? w _ hw278_2)).trans hw278_2), ((HB.out.cell (World.block_lt_of_cell? w _ hw278_3)).trans hw278_3), ((HB.out.cell (World.block_lt_of_cell? w _ hw280_0)).trans hw280_0), ((HB.out.cell (World.block_lt_of_cell? w _ hw280_1)).trans hw280_1), ((HB.out.cell (World.block_lt_of_cell? w _ hw280_2)).trans hw280_2), ((HB.out.cell (World.block_lt_of_cell? w _ hw280_3)).trans hw280_3), ((HB.out.cell (World.block_lt_of_cell? w _ hw282_0)).trans hw282_0), ((HB.out.cell (World.block_lt_of_cell? w _ hw282_1)).trans hw282_1), ((HB.out.cell (World.block_lt_of_cell? w _ hw282_2)).trans hw282_2), ((HB.out.cell (World.block_lt_of_cell? w _ hw282_3)).trans hw282_3), ((HB.out.cell (World.block_lt_of_cell? w _ hw284_0)).trans hw284_0), ((HB.out.cell (World.block_lt_of_cell? w _ hw284_1)).trans hw284_1), ((HB.out.cell (World.block_lt_of_cell? w _ hw284_2)).trans hw284_2), ((HB.out.cell (World.block_lt_of_cell? w _ hw284_3)).trans hw284_3)⟩ (fun hHeld => ?_); refine with_tabW saturatelaw32_SchedulerStates.tab14 saturatelaw32_SchedulerStates.bits14 (fun HT_ HW_ => ?_)
                        generalize wr.drew = w29 at HB hx278_0 hx278_1 hx278_2 hx278_3 hx280_0 hx280_1 hx280_2 hx280_3 hx282_0 hx282_1 hx282_2 hx282_3 hx284_0 hx284_1 hx284_2 hx284_3 hHeld ⊢
                        refine pure_ (i := 0) (N := some 53) (v := ?_) (a' := ?_) #[true, false, false, false, false, false, false, false, false, false, false, false, false, false, false, false, false, false, false, false, false, false, false, false, false, false] rfl rfl (any_of HT_.out (by kernel_rfl)) (fun _ _ _ h => h) (Or.inl ⟨by rfl, ?_⟩) ?_ ?_
                        rotate_left
                        · intro w'
                          go_simp
                          with_reducible rfl
                        rotate_left
                        · simp only [Act.put, List.setIfInBounds_toArray, List.set_cons_zero, List.set_cons_succ, i64_w, i32_w]
                          rfl
                        refine pure_ (i := 1) (N := some 54) (v := ?_) (a' := ?_) #[true, true, false, false, false, false, false, false, false, false, false, false, false, false, false, false, false, false, false, false, false, false, false, false, false, false] rfl rfl (any_of HT_.out (by kernel_rfl)) (fun _ _ _ h => h) (Or.inl ⟨by rfl, ?_⟩) ?_ ?_
                        rotate_left
                        · intro w'
                          go_simp
                          with_reducible rfl
                        rotate_left
                        · simp only [Act.put, List.setIfInBounds_toArray, List.set_cons_zero, List.set_cons_succ, i64_w, i32_w]
                          rfl
                        refine pure_ (i := 2) (N := some 55) (v := ?_) (a' := ?_) #[true, true, true, false, false, false, false, false, false, false, false, false, false, false, false, false, false, false, false, false, false, false, false, false, false, false] rfl rfl (any_of HT_.out (by kernel_rfl)) (fun _ _ _ h => h) (Or.inl ⟨by rfl, ?_⟩) ?_ ?_
                        rotate_left
                        · intro w'
                          go_simp
                          with_reducible rfl
                        rotate_left
                        · simp only [Act.put, List.setIfInBounds_toArray, List.set_cons_zero, List.set_cons_succ, i64_w, i32_w]
                          rfl
                        refine pure_ (i := 4) (N := some 57) (v := ?_) (a' := ?_) #[true, true, true, false, true, false, false, false, false, false, false, false, false, false, false, false, false, false, false, false, false, false, false, false, false, false] rfl rfl (any_of HT_.out (by kernel_rfl)) (fun _ _ _ h => h) (Or.inl ⟨by rfl, ?_⟩) ?_ ?_
                        rotate_left
                        · intro w'
                          go_simp
                          with_reducible rfl
                        rotate_left
                        · simp only [Act.put, List.setIfInBounds_toArray, List.set_cons_zero, List.set_cons_succ, i64_w, i32_w]
                          rfl
                        refine pure_ (i := 6) (N := some 59) (v := ?_) (a' := ?_) #[true, true, true, false, true, false, true, false, false, false, false, false, false, false, false, false, false, false, false, false, false, false, false, false, false, false] rfl rfl (any_of HT_.out (by kernel_rfl)) (fun _ _ _ h => h) (Or.inl ⟨by rfl, ?_⟩) ?_ ?_
                        rotate_left
                        · intro w'
                          go_simp
                          with_reducible rfl
                        rotate_left
                        · simp only [Act.put, List.setIfInBounds_toArray, List.set_cons_zero, List.set_cons_succ, i64_w, i32_w]
                          rfl
                        refine pure_ (i := 7) (N := some 60) (v := ?_) (a' := ?_) #[true, true, true, false, true, false, true, true, false, false, false, false, false, false, false, false, false, false, false, false, false, false, false, false, false, false] rfl rfl (any_of HT_.out (by kernel_rfl)) (fun _ _ _ h => h) (Or.inl ⟨by rfl, ?_⟩) ?_ ?_
                        rotate_left
                        · intro w'
                          go_simp
                          with_reducible rfl
                        rotate_left
                        · simp only [Act.put, List.setIfInBounds_toArray, List.set_cons_zero, List.set_cons_succ, i64_w, i32_w]
                          rfl
                        refine pure_ (i := 8) (N := some 61) (v := ?_) (a' := ?_) #[true, true, true, false, true, false, true, true, true, false, false, false, false, false, false, false, false, false, false, false, false, false, false, false, false, false] rfl rfl (any_of HT_.out (by kernel_rfl)) (fun _ _ _ h => h) (Or.inl ⟨by rfl, ?_⟩) ?_ ?_
                        rotate_left
                        · intro w'
                          go_simp
                          with_reducible rfl
                        rotate_left
                        · simp only [Act.put, List.setIfInBounds_toArray, List.set_cons_zero, List.set_cons_succ, i64_w, i32_w]
                          rfl
                        refine pure_ (i := 10) (N := some 63) (v := ?_) (a' := ?_) #[true, true, true, false, true, false, true, true, true, false, true, false, false, false, false, false, false, false, false, false, false, false, false, false, false, false] rfl rfl (any_of HT_.out (by kernel_rfl)) (fun _ _ _ h => h) (Or.inl ⟨by rfl, ?_⟩) ?_ ?_
                        rotate_left
                        · intro w'
                          go_simp
                          with_reducible rfl
                        rotate_left
                        · simp only [Act.put, List.setIfInBounds_toArray, List.set_cons_zero, List.set_cons_succ, i64_w, i32_w]
                          rfl
                        refine take_ (i := 3) (N := some 56) (v := ?_) (a' := ?_) #[true, true, true, true, true, false, true, true, true, false, true, false, false, false, false, false, false, false, false, false, false, false, false, false, false, false] rfl rfl (take_ofW HT_.out HW_.out (by kernel_rfl)) (fun _ _ _ h => h) (Or.inl ⟨by rfl, ?_⟩) hHeld ?_ ?_
                        rotate_left
                        · rintro w' ⟨s0, s1, s2, s3, s4, s5, s6, s7, s8, s9, s10, s11, s12, s13, s14, s15⟩
                          go_simp
                          with_reducible rfl
                        rotate_left
                        · simp only [Act.put, List.setIfInBounds_toArray, List.set_cons_zero, List.set_cons_succ, i64_w, i32_w]
                          rfl
                        refine take_ (i := 9) (N := some 62) (v := ?_) (a' := ?_) #[true, true, true, true, true, false, true, true, true, true, true, false, false, false, false, false, false, false, false, false, false, false, false, false, false, false] rfl rfl (take_ofW HT_.out HW_.out (by kernel_rfl)) (fun _ _ _ h => h) (Or.inl ⟨by rfl, ?_⟩) hHeld ?_ ?_
                        rotate_left
                        · rintro w' ⟨s0, s1, s2, s3, s4, s5, s6, s7, s8, s9, s10, s11, s12, s13, s14, s15⟩
                          go_simp
                          with_reducible rfl
                        rotate_left
                        · simp only [Act.put, List.setIfInBounds_toArray, List.set_cons_zero, List.set_cons_succ, i64_w, i32_w]
                          rfl
                        refine one_ (i := 5) (N := some 58) #[true, true, true, true, true, true, true, true, true, true, true, false, false, false, false, false, false, false, false, false, false, false, false, false, false, false] rfl rfl (one_of HT_.out (by kernel_rfl)) (by decide) (fun K hK => ?_)
                        refine goes_ Try.func11 (by kernel_rfl) rfl #[.agg #[.int .i64 ((rd_T26 l4 x14_2).f0), .int .i64 ((rd_T26 l4 x14_2).f1), .int .i64 ((rd_T26 l4 x14_2).f2), .int .i64 ((rd_T26 l4 x14_2).f3)], .int .i64 a3] (by rfl) rfl rfl (by (try simp only [List.map_toArray, List.map_cons, List.map_nil]); first | done | rfl | (simp only [List.length_drop, List.length_take]; rfl)) ?_
                        with_reducible refine (scheduler_Ready.calls ((rd_T26 l4 x14_2).f0) ((rd_T26 l4 x14_2).f1) ((rd_T26 l4 x14_2).f2) ((rd_T26 l4 x14_2).f3) a3 t279 _ A23.out).mono ?_
                        rintro e w30 ⟨rfl, hb⟩
                        refine ⟨_, rfl, ?_⟩
                        have n0_ := Aside0.mk (below_step (by repeat (first | (with_reducible first | exact HB.out | apply below_alloc | apply pw_below_drewN | apply below_drew1) | exact HB.out)) hb)
                        clear HB
                        have HB := n0_
                        clear n0_
                        (try clear hb)
                        (try clear hb2)
                        (try clear hk)
                        (try clear hi)
                        refine hK.out _ _ ⟨((HB.out.cell (World.block_lt_of_cell? w _ hw278_0)).trans hw278_0), ((HB.out.cell (World.block_lt_of_cell? w _ hw278_1)).trans hw278_1), ((HB.out.cell (World.block_lt_of_cell? w _ hw278_2)).trans hw278_2), ((HB.out.cell (World.block_lt_of_cell? w _ hw278_3)).trans hw278_3), ((HB.out.cell (World.block_lt_of_cell? w _ hw280_0)).trans hw280_0), ((HB.out.cell (World.block_lt_of_cell? w _ hw280_1)).trans hw280_1), ((HB.out.cell (World.block_lt_of_cell? w _ hw280_2)).trans hw280_2), ((HB.out.cell (World.block_lt_of_cell? w _ hw280_3)).trans hw280_3), ((HB.out.cell (World.block_lt_of_cell? w _ hw282_0)).trans hw282_0), ((HB.out.cell (World.block_lt_of_cell? w _ hw282_1)).trans hw282_1), ((HB.out.cell (World.block_lt_of_cell? w _ hw282_2)).trans hw282_2), ((HB.out.cell (World.block_lt_of_cell? w _ hw282_3)).trans hw282_3), ((HB.out.cell (World.block_lt_of_cell? w _ hw284_0)).trans hw284_0), ((HB.out.cell (World.block_lt_of_cell? w _ hw284_1)).trans hw284_1), ((HB.out.cell (World.block_lt_of_cell? w _ hw284_2)).trans hw284_2), ((HB.out.cell (World.block_lt_of_cell? w _ hw284_3)).trans hw284_3)⟩ (fun hHeld => ?_)
                        clear hK K
                        refine norm_ (a' := ?_) ?_ ?_
                        rotate_left
                        · show Act.put _ (some 58) _ = _
                          simp only [Act.put, List.setIfInBounds_toArray, List.set_cons_zero, List.set_cons_succ, i64_w, i32_w]
                          rfl
                        refine one_ (i := 11) (N := some 64) #[true, true, true, true, true, true, true, true, true, true, true, true, false, false, false, false, false, false, false, false, false, false, false, false, false, false] rfl rfl (one_of HT_.out (by kernel_rfl)) (by decide) (fun K hK => ?_)
                        refine goes_ Try.func12 (by kernel_rfl) rfl #[.agg #[.int .i64 ((rd_T26 l4 x14_2).f0), .int .i64 ((rd_T26 l4 x14_2).f1), .int .i64 ((rd_T26 l4 x14_2).f2), .int .i64 ((rd_T26 l4 x14_2).f3)], .int .i64 a3] (by rfl) rfl rfl (by (try simp only [List.map_toArray, List.map_cons, List.map_nil]); first | done | rfl | (simp only [List.length_drop, List.length_take]; rfl)) ?_
                        with_reducible refine (saturateref32_Ready.calls ((rd_T26 l4 x14_2).f0) ((rd_T26 l4 x14_2).f1) ((rd_T26 l4 x14_2).f2) ((rd_T26 l4 x14_2).f3) a3 t281 _ A24.out).mono ?_
                        rintro e w31 ⟨rfl, hb⟩
                        refine ⟨_, rfl, ?_⟩
                        have n0_ := Aside0.mk (below_step (by repeat (first | (with_reducible first | exact HB.out | apply below_alloc | apply pw_below_drewN | apply below_drew1) | exact HB.out)) hb)
                        clear HB
                        have HB := n0_
                        clear n0_
                        (try clear hb)
                        (try clear hb2)
                        (try clear hk)
                        (try clear hi)
                        refine hK.out _ _ ⟨((HB.out.cell (World.block_lt_of_cell? w _ hw278_0)).trans hw278_0), ((HB.out.cell (World.block_lt_of_cell? w _ hw278_1)).trans hw278_1), ((HB.out.cell (World.block_lt_of_cell? w _ hw278_2)).trans hw278_2), ((HB.out.cell (World.block_lt_of_cell? w _ hw278_3)).trans hw278_3), ((HB.out.cell (World.block_lt_of_cell? w _ hw280_0)).trans hw280_0), ((HB.out.cell (World.block_lt_of_cell? w _ hw280_1)).trans hw280_1), ((HB.out.cell (World.block_lt_of_cell? w _ hw280_2)).trans hw280_2), ((HB.out.cell (World.block_lt_of_cell? w _ hw280_3)).trans hw280_3), ((HB.out.cell (World.block_lt_of_cell? w _ hw282_0)).trans hw282_0), ((HB.out.cell (World.block_lt_of_cell? w _ hw282_1)).trans hw282_1), ((HB.out.cell (World.block_lt_of_cell? w _ hw282_2)).trans hw282_2), ((HB.out.cell (World.block_lt_of_cell? w _ hw282_3)).trans hw282_3), ((HB.out.cell (World.block_lt_of_cell? w _ hw284_0)).trans hw284_0), ((HB.out.cell (World.block_lt_of_cell? w _ hw284_1)).trans hw284_1), ((HB.out.cell (World.block_lt_of_cell? w _ hw284_2)).trans hw284_2), ((HB.out.cell (World.block_lt_of_cell? w _ hw284_3)).trans hw284_3)⟩ (fun hHeld => ?_)
                        clear hK K
                        refine norm_ (a' := ?_) ?_ ?_
                        rotate_left
                        · show Act.put _ (some 64) _ = _
                          simp only [Act.put, List.setIfInBounds_toArray, List.set_cons_zero, List.set_cons_succ, i64_w, i32_w]
                          rfl
                        refine pure_ (i := 12) (N := some 65) (v := ?_) (a' := ?_) #[true, true, true, true, true, true, true, true, true, true, true, true, true, false, false, false, false, false, false, false, false, false, false, false, false, false] rfl rfl (any_of HT_.out (by kernel_rfl)) (fun _ _ _ h => h) (Or.inl ⟨by rfl, ?_⟩) ?_ ?_
                        rotate_left
                        · intro w'
                          go_simp
                          with_reducible rfl
                        rotate_left
                        · simp only [Act.put, List.setIfInBounds_toArray, List.set_cons_zero, List.set_cons_succ, i64_w, i32_w]
                          rfl
                        refine pure_ (i := 13) (N := some 66) (v := ?_) (a' := ?_) #[true, true, true, true, true, true, true, true, true, true, true, true, true, true, false, false, false, false, false, false, false, false, false, false, false, false] rfl rfl (any_of HT_.out (by kernel_rfl)) (fun _ _ _ h => h) (Or.inl ⟨by rfl, ?_⟩) ?_ ?_
                        rotate_left
                        · intro w'
                          go_simp
                          with_reducible rfl
                        rotate_left
                        · simp only [Act.put, List.setIfInBounds_toArray, List.set_cons_zero, List.set_cons_succ, i64_w, i32_w]
                          rfl
                        refine pure_ (i := 14) (N := some 67) (v := ?_) (a' := ?_) #[true, true, true, true, true, true, true, true, true, true, true, true, true, true, true, false, false, false, false, false, false, false, false, false, false, false] rfl rfl (any_of HT_.out (by kernel_rfl)) (fun _ _ _ h => h) (Or.inl ⟨by rfl, ?_⟩) ?_ ?_
                        rotate_left
                        · intro w'
                          go_simp
                          with_reducible rfl
                        rotate_left
                        · simp only [Act.put, List.setIfInBounds_toArray, List.set_cons_zero, List.set_cons_succ, i64_w, i32_w]
                          rfl
                        refine pure_ (i := 15) (N := some 68) (v := ?_) (a' := ?_) #[true, true, true, true, true, true, true, true, true, true, true, true, true, true, true, true, false, false, false, false, false, false, false, false, false, false] rfl rfl (any_of HT_.out (by kernel_rfl)) (fun _ _ _ h => h) (Or.inl ⟨by rfl, ?_⟩) ?_ ?_
                        rotate_left
                        · intro w'
                          go_simp
                          with_reducible rfl
                        rotate_left
                        · simp only [Act.put, List.setIfInBounds_toArray, List.set_cons_zero, List.set_cons_succ, i64_w, i32_w]
                          rfl
                        refine pure_ (i := 16) (N := some 69) (v := ?_) (a' := ?_) #[true, true, true, true, true, true, true, true, true, true, true, true, true, true, true, true, true, false, false, false, false, false, false, false, false, false] rfl rfl (any_of HT_.out (by kernel_rfl)) (fun _ _ _ h => h) (Or.inl ⟨by rfl, ?_⟩) ?_ ?_
                        rotate_left
                        · intro w'
                          go_simp
                          with_reducible rfl
                        rotate_left
                        · simp only [Act.put, List.setIfInBounds_toArray, List.set_cons_zero, List.set_cons_succ, i64_w, i32_w]
                          rfl
                        refine pure_ (i := 19) (N := some 72) (v := ?_) (a' := ?_) #[true, true, true, true, true, true, true, true, true, true, true, true, true, true, true, true, true, false, false, true, false, false, false, false, false, false] rfl rfl (any_of HT_.out (by kernel_rfl)) (fun _ _ _ h => h) (Or.inl ⟨by rfl, ?_⟩) ?_ ?_
                        rotate_left
                        · intro w'
                          go_simp
                          with_reducible rfl
                        rotate_left
                        · simp only [Act.put, List.setIfInBounds_toArray, List.set_cons_zero, List.set_cons_succ, i64_w, i32_w]
                          rfl
                        refine pure_ (i := 20) (N := some 73) (v := ?_) (a' := ?_) #[true, true, true, true, true, true, true, true, true, true, true, true, true, true, true, true, true, false, false, true, true, false, false, false, false, false] rfl rfl (any_of HT_.out (by kernel_rfl)) (fun _ _ _ h => h) (Or.inl ⟨by rfl, ?_⟩) ?_ ?_
                        rotate_left
                        · intro w'
                          go_simp
                          with_reducible rfl
                        rotate_left
                        · simp only [Act.put, List.setIfInBounds_toArray, List.set_cons_zero, List.set_cons_succ, i64_w, i32_w]
                          rfl
                        refine pure_ (i := 21) (N := some 74) (v := ?_) (a' := ?_) #[true, true, true, true, true, true, true, true, true, true, true, true, true, true, true, true, true, false, false, true, true, true, false, false, false, false] rfl rfl (any_of HT_.out (by kernel_rfl)) (fun _ _ _ h => h) (Or.inl ⟨by rfl, ?_⟩) ?_ ?_
                        rotate_left
                        · intro w'
                          go_simp
                          with_reducible rfl
                        rotate_left
                        · simp only [Act.put, List.setIfInBounds_toArray, List.set_cons_zero, List.set_cons_succ, i64_w, i32_w]
                          rfl
                        refine take_ (i := 17) (N := some 70) (v := ?_) (a' := ?_) #[true, true, true, true, true, true, true, true, true, true, true, true, true, true, true, true, true, true, false, true, true, true, false, false, false, false] rfl rfl (take_ofW HT_.out HW_.out (by kernel_rfl)) (fun _ _ _ h => h) (Or.inl ⟨by rfl, ?_⟩) hHeld ?_ ?_
                        rotate_left
                        · rintro w' ⟨s0, s1, s2, s3, s4, s5, s6, s7, s8, s9, s10, s11, s12, s13, s14, s15⟩
                          go_simp
                          with_reducible rfl
                        rotate_left
                        · simp only [Act.put, List.setIfInBounds_toArray, List.set_cons_zero, List.set_cons_succ, i64_w, i32_w]
                          rfl
                        refine take_ (i := 22) (N := some 75) (v := ?_) (a' := ?_) #[true, true, true, true, true, true, true, true, true, true, true, true, true, true, true, true, true, true, false, true, true, true, true, false, false, false] rfl rfl (take_ofW HT_.out HW_.out (by kernel_rfl)) (fun _ _ _ h => h) (Or.inl ⟨by rfl, ?_⟩) hHeld ?_ ?_
                        rotate_left
                        · rintro w' ⟨s0, s1, s2, s3, s4, s5, s6, s7, s8, s9, s10, s11, s12, s13, s14, s15⟩
                          go_simp
                          with_reducible rfl
                        rotate_left
                        · simp only [Act.put, List.setIfInBounds_toArray, List.set_cons_zero, List.set_cons_succ, i64_w, i32_w]
                          rfl
                        refine one_ (i := 18) (N := some 71) #[true, true, true, true, true, true, true, true, true, true, true, true, true, true, true, true, true, true, true, true, true, true, true, false, false, false] rfl rfl (one_of HT_.out (by kernel_rfl)) (by decide) (fun K hK => ?_)
                        refine goes_ Try.func13 (by kernel_rfl) rfl #[.agg #[.int .i64 ((rd_T26 l4 x14_2).f0), .int .i64 ((rd_T26 l4 x14_2).f1), .int .i64 ((rd_T26 l4 x14_2).f2), .int .i64 ((rd_T26 l4 x14_2).f3)]] (by rfl) rfl rfl (by (try simp only [List.map_toArray, List.map_cons, List.map_nil]); first | done | rfl | (simp only [List.length_drop, List.length_take]; rfl)) ?_
                        with_reducible refine (scheduler_Threshold.calls ((rd_T26 l4 x14_2).f0) ((rd_T26 l4 x14_2).f1) ((rd_T26 l4 x14_2).f2) ((rd_T26 l4 x14_2).f3) t283 _ A26.out).mono ?_
                        rintro e w32 ⟨rfl, hb⟩
                        refine ⟨_, rfl, ?_⟩
                        have n0_ := Aside0.mk (below_step (by repeat (first | (with_reducible first | exact HB.out | apply below_alloc | apply pw_below_drewN | apply below_drew1) | exact HB.out)) hb)
                        clear HB
                        have HB := n0_
                        clear n0_
                        (try clear hb)
                        (try clear hb2)
                        (try clear hk)
                        (try clear hi)
                        refine hK.out _ _ ⟨((HB.out.cell (World.block_lt_of_cell? w _ hw278_0)).trans hw278_0), ((HB.out.cell (World.block_lt_of_cell? w _ hw278_1)).trans hw278_1), ((HB.out.cell (World.block_lt_of_cell? w _ hw278_2)).trans hw278_2), ((HB.out.cell (World.block_lt_of_cell? w _ hw278_3)).trans hw278_3), ((HB.out.cell (World.block_lt_of_cell? w _ hw280_0)).trans hw280_0), ((HB.out.cell (World.block_lt_of_cell? w _ hw280_1)).trans hw280_1), ((HB.out.cell (World.block_lt_of_cell? w _ hw280_2)).trans hw280_2), ((HB.out.cell (World.block_lt_of_cell? w _ hw280_3)).trans hw280_3), ((HB.out.cell (World.block_lt_of_cell? w _ hw282_0)).trans hw282_0), ((HB.out.cell (World.block_lt_of_cell? w _ hw282_1)).trans hw282_1), ((HB.out.cell (World.block_lt_of_cell? w _ hw282_2)).trans hw282_2), ((HB.out.cell (World.block_lt_of_cell? w _ hw282_3)).trans hw282_3), ((HB.out.cell (World.block_lt_of_cell? w _ hw284_0)).trans hw284_0), ((HB.out.cell (World.block_lt_of_cell? w _ hw284_1)).trans hw284_1), ((HB.out.cell (World.block_lt_of_cell? w _ hw284_2)).trans hw284_2), ((HB.out.cell (World.block_lt_of_cell? w _ hw284_3)).trans hw284_3)⟩ (fun hHeld => ?_)
                        clear hK K
                        refine norm_ (a' := ?_) ?_ ?_
                        rotate_left
                        · show Act.put _ (some 71) _ = _
                          simp only [Act.put, List.setIfInBounds_toArray, List.set_cons_zero, List.set_cons_succ, i64_w, i32_w]
                          rfl
                        refine one_ (i := 23) (N := some 76) #[true, true, true, true, true, true, true, true, true, true, true, true, true, true, true, true, true, true, true, true, true, true, true, true, false, false] rfl rfl (one_of HT_.out (by kernel_rfl)) (by decide) (fun K hK => ?_)
                        refine goes_ Try.func14 (by kernel_rfl) rfl #[.agg #[.int .i64 ((rd_T26 l4 x14_2).f0), .int .i64 ((rd_T26 l4 x14_2).f1), .int .i64 ((rd_T26 l4 x14_2).f2), .int .i64 ((rd_T26 l4 x14_2).f3)]] (by rfl) rfl rfl (by (try simp only [List.map_toArray, List.map_cons, List.map_nil]); first | done | rfl | (simp only [List.length_drop, List.length_take]; rfl)) ?_
                        with_reducible refine (saturateref32_Threshold.calls k2 ((rd_T26 l4 x14_2).f0) ((rd_T26 l4 x14_2).f1) ((rd_T26 l4 x14_2).f2) ((rd_T26 l4 x14_2).f3) t285 _ A27.out).mono ?_
                        rintro e w33 ⟨rfl, hb⟩
                        refine ⟨_, rfl, ?_⟩
                        have n0_ := Aside0.mk (below_step (by repeat (first | (with_reducible first | exact HB.out | apply below_alloc | apply pw_below_drewN | apply below_drew1) | exact HB.out)) hb)
                        clear HB
                        have HB := n0_
                        clear n0_
                        (try clear hb)
                        (try clear hb2)
                        (try clear hk)
                        (try clear hi)
                        refine hK.out _ _ ⟨((HB.out.cell (World.block_lt_of_cell? w _ hw278_0)).trans hw278_0), ((HB.out.cell (World.block_lt_of_cell? w _ hw278_1)).trans hw278_1), ((HB.out.cell (World.block_lt_of_cell? w _ hw278_2)).trans hw278_2), ((HB.out.cell (World.block_lt_of_cell? w _ hw278_3)).trans hw278_3), ((HB.out.cell (World.block_lt_of_cell? w _ hw280_0)).trans hw280_0), ((HB.out.cell (World.block_lt_of_cell? w _ hw280_1)).trans hw280_1), ((HB.out.cell (World.block_lt_of_cell? w _ hw280_2)).trans hw280_2), ((HB.out.cell (World.block_lt_of_cell? w _ hw280_3)).trans hw280_3), ((HB.out.cell (World.block_lt_of_cell? w _ hw282_0)).trans hw282_0), ((HB.out.cell (World.block_lt_of_cell? w _ hw282_1)).trans hw282_1), ((HB.out.cell (World.block_lt_of_cell? w _ hw282_2)).trans hw282_2), ((HB.out.cell (World.block_lt_of_cell? w _ hw282_3)).trans hw282_3), ((HB.out.cell (World.block_lt_of_cell? w _ hw284_0)).trans hw284_0), ((HB.out.cell (World.block_lt_of_cell? w _ hw284_1)).trans hw284_1), ((HB.out.cell (World.block_lt_of_cell? w _ hw284_2)).trans hw284_2), ((HB.out.cell (World.block_lt_of_cell? w _ hw284_3)).trans hw284_3)⟩ (fun hHeld => ?_)
                        clear hK K
                        refine norm_ (a' := ?_) ?_ ?_
                        rotate_left
                        · show Act.put _ (some 76) _ = _
                          simp only [Act.put, List.setIfInBounds_toArray, List.set_cons_zero, List.set_cons_succ, i64_w, i32_w]
                          rfl
                        refine pure_ (i := 24) (N := some 77) (v := ?_) (a' := ?_) #[true, true, true, true, true, true, true, true, true, true, true, true, true, true, true, true, true, true, true, true, true, true, true, true, true, false] rfl rfl (any_of HT_.out (by kernel_rfl)) (fun _ _ _ h => h) (Or.inl ⟨by rfl, ?_⟩) ?_ ?_
                        rotate_left
                        · intro w'
                          go_simp
                          with_reducible rfl
                        rotate_left
                        · simp only [Act.put, List.setIfInBounds_toArray, List.set_cons_zero, List.set_cons_succ, i64_w, i32_w]
                          rfl
                        refine pure_ (i := 25) (N := some 78) (v := ?_) (a' := ?_) #[true, true, true, true, true, true, true, true, true, true, true, true, true, true, true, true, true, true, true, true, true, true, true, true, true, true] rfl rfl (any_of HT_.out (by kernel_rfl)) (fun _ _ _ h => h) (Or.inl ⟨by rfl, ?_⟩) ?_ ?_
                        rotate_left
                        · intro w'
                          go_simp
                          with_reducible rfl
                        rotate_left
                        · simp only [Act.put, List.setIfInBounds_toArray, List.set_cons_zero, List.set_cons_succ, i64_w, i32_w]
                          rfl
                        refine done_ (done_of HT_.out (by kernel_rfl)) ?_
                        try go_wp2
                        go_roundg k2
                        case measure => have := HK1.out; have := HK2.out; omega
                        case rel => exact ⟨(wrap64 (x14_2 + 1)), (by first | rfl | (simp; done) | (simp [*]; done)), H', ⟨by have := HK1.out; have := HK2.out; omega⟩, ⟨by repeat (first | (with_reducible first | exact HB.out | apply below_alloc | apply pw_below_drewN | apply below_drew1) | exact HB.out)⟩⟩
                      · rw [if_neg c28] at H
                        have c28b0 : (t283 == t285) = false := beq_eq_false_iff_ne.mpr c28
                        have c28b1 : (t283 != t285) = true := bne_iff_ne.mpr c28
                        exact absurd ((Option.some.inj H).trans hrT.out) (by decide)
                  · rw [if_neg c22] at H
                    exact absurd H (by simp)
                · rw [if_neg c21] at H
                  have c21b0 : decide (x14_2 < (l4.length : Int)) = false := decide_eq_false c21
                  clear c21
                  replace H := Option.bind_eq_some_iff.mp H
                  obtain ⟨t275, A340, H⟩ := H
                  replace H : ((saturateref32_Banned.f k2 l4 a3).bind fun t276 => (if t275 = t276 then ((saturatelaw32_lives.f k2).bind fun t277 => (some t277)) else (some false))) = some r := H
                  have A34 := Aside0.mk A340
                  clear A340
                  replace H := Option.bind_eq_some_iff.mp H
                  obtain ⟨t276, A350, H⟩ := H
                  replace H : (if t275 = t276 then ((saturatelaw32_lives.f k2).bind fun t277 => (some t277)) else (some false)) = some r := H
                  have A35 := Aside0.mk A350
                  clear A350
                  by_cases c36 : t275 = t276
                  · rw [if_pos c36] at H
                    have c36b0 : (t275 == t276) = true := beq_iff_eq.mpr c36
                    have c36b1 : (t275 != t276) = false := bne_eq_false_iff_eq.mpr c36
                    clear c36
                    replace H := Option.bind_eq_some_iff.mp H
                    obtain ⟨t277, A370, H⟩ := H
                    replace H : (some t277) = some r := H
                    have A37 := Aside0.mk A370
                    clear A370
                    obtain rfl := Option.some.inj H
                    go_wp2_with (first | ((with_reducible refine gate_callee (f := 15) rfl ?_); refine goesL_ (some 81) rfl rfl Try.func15 (by kernel_rfl) rfl #[.slice A4 l4.length c4, .int .i64 a3] rfl (by (try simp only [List.map_toArray, List.map_cons, List.map_nil]); first | done | rfl | (simp only [List.length_drop, List.length_take]; rfl)) ?_; (with_reducible refine (scheduler_Banned.calls k2 _ _ l4 a3 t275 _ ?side1 ?side2 A34.out).mono ?_); (case side1 => repeat (first | exact (Kd.C_below HR4.out HB.out) | (with_reducible refine Kd.C_alloc ?_ _) | (with_reducible refine Kd.C_drewN ?_ _) | (with_reducible refine Kd.C_drew ?_))); (case side2 => exact HC4.out); rintro e w38 ⟨rfl, hb⟩; refine ⟨_, rfl, ?_⟩; have n0_ := Aside0.mk (below_step (by repeat (first | (with_reducible first | exact HB.out | apply below_alloc | apply pw_below_drewN | apply below_drew1) | exact HB.out)) hb); clear HB; have HB := n0_; clear n0_; (try clear hb); (try clear hb2); (try clear hk); (try clear hi)) | ((with_reducible refine gate_callee (f := 16) rfl ?_); refine goesL_ (some 84) rfl rfl Try.func16 (by kernel_rfl) rfl #[.slice A4 l4.length c4, .int .i64 a3] rfl (by (try simp only [List.map_toArray, List.map_cons, List.map_nil]); first | done | rfl | (simp only [List.length_drop, List.length_take]; rfl)) ?_; (with_reducible refine (saturateref32_Banned.calls k2 _ _ l4 a3 t276 _ ?side1 ?side2 A35.out).mono ?_); (case side1 => repeat (first | exact (Kd.C_below HR4.out HB.out) | (with_reducible refine Kd.C_alloc ?_ _) | (with_reducible refine Kd.C_drewN ?_ _) | (with_reducible refine Kd.C_drew ?_))); (case side2 => exact HC4.out); rintro e w39 ⟨rfl, hb⟩; refine ⟨_, rfl, ?_⟩; have n0_ := Aside0.mk (below_step (by repeat (first | (with_reducible first | exact HB.out | apply below_alloc | apply pw_below_drewN | apply below_drew1) | exact HB.out)) hb); clear HB; have HB := n0_; clear n0_; (try clear hb); (try clear hb2); (try clear hk); (try clear hi)) | (go_at_call 8; (with_reducible refine (saturatelaw32_lives.calls k2  t277 _ A37.out).mono ?_); rintro e w40 ⟨rfl, hb⟩; have n0_ := Aside0.mk (below_step (by repeat (first | (with_reducible first | exact HB.out | apply below_alloc | apply pw_below_drewN | apply below_drew1) | exact HB.out)) hb); clear HB; have HB := n0_; clear n0_; (try clear hb); (try clear hb2); (try clear hk); (try clear hi)))
                    go_ret
                    exact ⟨by first | rfl | (simp [errW_none, errW_some] <;> rfl) | (simp [*, errW_none, errW_some] <;> rfl), by repeat (first | (with_reducible first | exact HB.out | apply below_alloc | apply pw_below_drewN | apply below_drew1) | exact HB.out)⟩
                  · rw [if_neg c36] at H
                    have c36b0 : (t275 == t276) = false := beq_eq_false_iff_ne.mpr c36
                    have c36b1 : (t275 != t276) = true := bne_iff_ne.mpr c36
                    exact absurd ((Option.some.inj H).trans hrT.out) (by decide)
    · rw [if_neg c11] at H
      have c11b0 : ((t267.length : Int) == (t270.length : Int)) = false := beq_eq_false_iff_ne.mpr c11
      have c11b1 : ((t267.length : Int) != (t270.length : Int)) = true := bne_iff_ne.mpr c11
      have c11b2 : (t267.length == t270.length) = false := by first | simpa using c11 | (simp at c11 ⊢; omega)
      exact absurd ((Option.some.inj H).trans hrT.out) (by decide)

end Go.Proofs.Ytfocgjcfalhglaa.QAll
