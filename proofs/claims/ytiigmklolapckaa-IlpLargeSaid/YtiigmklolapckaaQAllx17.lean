/- What functions of the translation compute, and that the machine's calls of them come to that: printed by this session's own program, a variant of the print. No condition. -/
import Derived.Test.YtiigmklolapckaaQAllx0
import Derived.Test.YtiigmklolapckaaQAllx1
import Derived.Test.YtiigmklolapckaaQAllx4
import Derived.Test.YtiigmklolapckaaQAllx5
import Derived.Test.YtiigmklolapckaaQAllx15
import Derived.Test.YtiigmklolapckaaExtSolve
namespace Go.Proofs.Ytiigmklolapckaa.QAll
open Go.RowKit Go.Proofs.YtiigmklolapckaaW.PrintWords Go.Proofs.YtiigmklolapckaaW.PrintLast Go.Proofs.YtiigmklolapckaaW.PrintMore
attribute [local go_sem] max2_int min2_int max_two min_two max_three min_three max_four min_four   -- for this text's walks alone
set_option linter.unusedVariables false
set_option linter.unusedSimpArgs false

/-! ### saturatelaw41_IlpLarge: function 5 -/
mutual
def saturatelaw41_IlpLarge.l0 : Nat → List (S25) → List Bool → Int → Bool → Int → List Int → List (S43) → Option (Bool)
 | 0, _, _, _, _, _, _, _ => none
 | k + 1, x0, x4, x5, x6, x7, x333000, x333001 => if x7 < (x0.length : Int) then (if 0 ≤ x7 then ((saturatelaw41_few.f k ((rd_T25 x0 x7).f0) ((rd_T25 x0 x7).f1) 6).bind fun t334 => (if t334 = true then ((saturateref41_Solve.f k ((rd_T25 x0 x7).f0) ((rd_T25 x0 x7).f1)).bind fun bt337 => (if bt337.2.2 = 0 then (saturatelaw41_IlpLarge.j1 k x0 x4 x5 x6 x7 bt337.1 bt337.2.1 bt337.2.2 false x333000 x333001) else (saturatelaw41_IlpLarge.j1 k x0 x4 x5 x6 x7 bt337.1 bt337.2.1 bt337.2.2 (bt337.2.2 != 16) x333000 x333001))) else ((saturatelaw41_lives.f k).bind fun t335 => (some t335)))) else (none)) else ((ilp_Solve.f x333000 x333001).bind fun bt366 => (if x6 = true then (if bt366.2.2 = 0 then (if bt366.2.1 = x5 then ((saturateref41_Same.f k bt366.1 x4).bind fun t371 => (if t371 = true then ((saturatelaw41_lives.f k).bind fun t372 => (some t372)) else (some false))) else (some false)) else (some false)) else (if bt366.2.2 = 16 then (if (bt366.1.length : Int) = 0 then (if bt366.2.1 = 0 then ((saturatelaw41_lives.f k).bind fun t373 => (some t373)) else (some false)) else (some false)) else (some false))))
def saturatelaw41_IlpLarge.j1 : Nat → List (S25) → List Bool → Int → Bool → Int → List Bool → Int → Int → Bool → List Int → List (S43) → Option (Bool)
 | 0, _, _, _, _, _, _, _, _, _, _, _ => none
 | k + 1, x0, x4, x5, x6, x7, x8, x9, x10, x49, x333000, x333001 => if x49 = true then ((saturatelaw41_lives.f k).bind fun t342 => (some t342)) else (if x6 = true then (saturatelaw41_IlpLarge.j2 k x0 x4 x5 (x10 == 0) x7 x8 x9 x333000 x333001) else (saturatelaw41_IlpLarge.j2 k x0 x4 x5 false x7 x8 x9 x333000 x333001))
def saturatelaw41_IlpLarge.j2 : Nat → List (S25) → List Bool → Int → Bool → Int → List Bool → Int → List Int → List (S43) → Option (Bool)
 | 0, _, _, _, _, _, _, _, _, _ => none
 | k + 1, x0, x4, x5, x6, x7, x8, x9, x333000, x333001 => saturatelaw41_IlpLarge.l1 k x0 x4 x5 x6 x7 x8 x9 0 x333000 x333001
def saturatelaw41_IlpLarge.l1 : Nat → List (S25) → List Bool → Int → Bool → Int → List Bool → Int → Int → List Int → List (S43) → Option (Bool)
 | 0, _, _, _, _, _, _, _, _, _, _ => none
 | k + 1, x0, x4, x5, x6, x7, x8, x9, x11, x333000, x333001 => if 0 ≤ x7 then (if x7 < (x0.length : Int) then (if x11 < (((rd_T25 x0 x7).f1).length : Int) then (if 0 ≤ x11 then (saturatelaw41_IlpLarge.l2 k x0 x4 x5 x6 x7 x8 x9 x11 0 x333000 x333001 ([] : List (S45)) ((rd_T43 ((rd_T25 x0 x7).f1) x11).f1)) else (none)) else (if x333000.length + ((rd_T25 x0 x7).f0).length < 17592186044416 then (if x4.length + x8.length < 140737488355328 then (saturatelaw41_IlpLarge.l0 k x0 (x4 ++ x8) (wrap64 (x5 + x9)) x6 (wrap64 (x7 + 1)) (x333000 ++ ((rd_T25 x0 x7).f0)) x333001) else (none)) else (none))) else (none)) else (none)
def saturatelaw41_IlpLarge.l2 : Nat → List (S25) → List Bool → Int → Bool → Int → List Bool → Int → Int → Int → List Int → List (S43) → List (S45) → Int → Option (Bool)
 | 0, _, _, _, _, _, _, _, _, _, _, _, _, _ => none
 | k + 1, x0, x4, x5, x6, x7, x8, x9, x11, x13, x333000, x333001, x354000, x354001 => if 0 ≤ x7 then (if x7 < (x0.length : Int) then (if 0 ≤ x11 then (if x11 < (((rd_T25 x0 x7).f1).length : Int) then (if x13 < (((rd_T43 ((rd_T25 x0 x7).f1) x11).f0).length : Int) then (if 0 ≤ x13 then (if x354000.length < 8796093022208 then (saturatelaw41_IlpLarge.l2 k x0 x4 x5 x6 x7 x8 x9 x11 (wrap64 (x13 + 1)) x333000 x333001 (x354000 ++ [(⟨wrap64 (((rd_T45 ((rd_T43 ((rd_T25 x0 x7).f1) x11).f0) x13).f0) + (x333000.length : Int)), (rd_T45 ((rd_T43 ((rd_T25 x0 x7).f1) x11).f0) x13).f1⟩ : S45)]) x354001) else (none)) else (none)) else (if x333001.length < 4398046511104 then (saturatelaw41_IlpLarge.l1 k x0 x4 x5 x6 x7 x8 x9 (wrap64 (x11 + 1)) x333000 (x333001 ++ [(⟨x354000, x354001⟩ : S43)])) else (none))) else (none)) else (none)) else (none)) else (none)
end
def saturatelaw41_IlpLarge.f (k : Nat) (l0 : List (S25)) : Option (Bool) := if (l0.length : Int) > 3 then ((saturatelaw41_lives.f k).bind fun t331 => (some t331)) else (saturatelaw41_IlpLarge.l0 k l0 ([] : List Bool) 0 true 0 ([] : List Int) ([] : List (S43)))
theorem saturatelaw41_IlpLarge.mono_l : ∀ k, (∀ y0 y1 y2 y3 y4 y5 y6, LeO (saturatelaw41_IlpLarge.l0 k y0 y1 y2 y3 y4 y5 y6) (saturatelaw41_IlpLarge.l0 (k + 1) y0 y1 y2 y3 y4 y5 y6)) ∧ (∀ y0 y1 y2 y3 y4 y5 y6 y7 y8 y9 y10, LeO (saturatelaw41_IlpLarge.j1 k y0 y1 y2 y3 y4 y5 y6 y7 y8 y9 y10) (saturatelaw41_IlpLarge.j1 (k + 1) y0 y1 y2 y3 y4 y5 y6 y7 y8 y9 y10)) ∧ (∀ y0 y1 y2 y3 y4 y5 y6 y7 y8, LeO (saturatelaw41_IlpLarge.j2 k y0 y1 y2 y3 y4 y5 y6 y7 y8) (saturatelaw41_IlpLarge.j2 (k + 1) y0 y1 y2 y3 y4 y5 y6 y7 y8)) ∧ (∀ y0 y1 y2 y3 y4 y5 y6 y7 y8 y9, LeO (saturatelaw41_IlpLarge.l1 k y0 y1 y2 y3 y4 y5 y6 y7 y8 y9) (saturatelaw41_IlpLarge.l1 (k + 1) y0 y1 y2 y3 y4 y5 y6 y7 y8 y9)) ∧ (∀ y0 y1 y2 y3 y4 y5 y6 y7 y8 y9 y10 y11 y12, LeO (saturatelaw41_IlpLarge.l2 k y0 y1 y2 y3 y4 y5 y6 y7 y8 y9 y10 y11 y12) (saturatelaw41_IlpLarge.l2 (k + 1) y0 y1 y2 y3 y4 y5 y6 y7 y8 y9 y10 y11 y12))
 | 0 => ⟨fun _ _ _ _ _ _ _ r h => by simp [saturatelaw41_IlpLarge.l0] at h, fun _ _ _ _ _ _ _ _ _ _ _ r h => by simp [saturatelaw41_IlpLarge.j1] at h, fun _ _ _ _ _ _ _ _ _ r h => by simp [saturatelaw41_IlpLarge.j2] at h, fun _ _ _ _ _ _ _ _ _ _ r h => by simp [saturatelaw41_IlpLarge.l1] at h, fun _ _ _ _ _ _ _ _ _ _ _ _ _ r h => by simp [saturatelaw41_IlpLarge.l2] at h⟩
 | k + 1 => by
  obtain ⟨ih0, ih1, ih2, ih3, ih4⟩ := saturatelaw41_IlpLarge.mono_l k
  refine ⟨?_, ?_, ?_, ?_, ?_⟩
  ·intro y0 y1 y2 y3 y4 y5 y6
   unfold saturatelaw41_IlpLarge.l0
   repeat' first
   | (with_reducible exact ih0 _ _ _ _ _ _ _)
   | (with_reducible exact ih1 _ _ _ _ _ _ _ _ _ _ _)
   | (with_reducible exact ih2 _ _ _ _ _ _ _ _ _)
   | (with_reducible exact ih3 _ _ _ _ _ _ _ _ _ _)
   | (with_reducible exact ih4 _ _ _ _ _ _ _ _ _ _ _ _ _)
   | (with_reducible exact saturatelaw41_few.mono _ _ _ _)
   | (with_reducible exact saturatelaw41_lives.mono _)
   | (with_reducible exact saturateref41_Same.mono _ _ _)
   | (with_reducible exact saturateref41_Solve.mono _ _ _)
   | (with_reducible exact LeO.refl _)
   | (with_reducible exact LeO.none _)
   | (with_reducible refine LeO.ite ?_ ?_)
   | (with_reducible refine LeO.bind ?_ (fun _ => ?_))
   | exact ih0 _ _ _ _ _ _ _
   | exact ih1 _ _ _ _ _ _ _ _ _ _ _
   | exact ih2 _ _ _ _ _ _ _ _ _
   | exact ih3 _ _ _ _ _ _ _ _ _ _
   | exact ih4 _ _ _ _ _ _ _ _ _ _ _ _ _
   | exact saturatelaw41_few.mono _ _ _ _
   | exact saturatelaw41_lives.mono _
   | exact saturateref41_Same.mono _ _ _
   | exact saturateref41_Solve.mono _ _ _
   | exact LeO.none _
   | refine LeO.ite ?_ ?_
   | refine LeO.bind ?_ (fun _ => ?_)
  ·intro y0 y1 y2 y3 y4 y5 y6 y7 y8 y9 y10
   unfold saturatelaw41_IlpLarge.j1
   repeat' first
   | (with_reducible exact ih0 _ _ _ _ _ _ _)
   | (with_reducible exact ih1 _ _ _ _ _ _ _ _ _ _ _)
   | (with_reducible exact ih2 _ _ _ _ _ _ _ _ _)
   | (with_reducible exact ih3 _ _ _ _ _ _ _ _ _ _)
   | (with_reducible exact ih4 _ _ _ _ _ _ _ _ _ _ _ _ _)
   | (with_reducible exact saturatelaw41_few.mono _ _ _ _)
   | (with_reducible exact saturatelaw41_lives.mono _)
   | (with_reducible exact saturateref41_Same.mono _ _ _)
   | (with_reducible exact saturateref41_Solve.mono _ _ _)
   | (with_reducible exact LeO.refl _)
   | (with_reducible exact LeO.none _)
   | (with_reducible refine LeO.ite ?_ ?_)
   | (with_reducible refine LeO.bind ?_ (fun _ => ?_))
   | exact ih0 _ _ _ _ _ _ _
   | exact ih1 _ _ _ _ _ _ _ _ _ _ _
   | exact ih2 _ _ _ _ _ _ _ _ _
   | exact ih3 _ _ _ _ _ _ _ _ _ _
   | exact ih4 _ _ _ _ _ _ _ _ _ _ _ _ _
   | exact saturatelaw41_few.mono _ _ _ _
   | exact saturatelaw41_lives.mono _
   | exact saturateref41_Same.mono _ _ _
   | exact saturateref41_Solve.mono _ _ _
   | exact LeO.none _
   | refine LeO.ite ?_ ?_
   | refine LeO.bind ?_ (fun _ => ?_)
  ·intro y0 y1 y2 y3 y4 y5 y6 y7 y8
   unfold saturatelaw41_IlpLarge.j2
   repeat' first
   | (with_reducible exact ih0 _ _ _ _ _ _ _)
   | (with_reducible exact ih1 _ _ _ _ _ _ _ _ _ _ _)
   | (with_reducible exact ih2 _ _ _ _ _ _ _ _ _)
   | (with_reducible exact ih3 _ _ _ _ _ _ _ _ _ _)
   | (with_reducible exact ih4 _ _ _ _ _ _ _ _ _ _ _ _ _)
   | (with_reducible exact saturatelaw41_few.mono _ _ _ _)
   | (with_reducible exact saturatelaw41_lives.mono _)
   | (with_reducible exact saturateref41_Same.mono _ _ _)
   | (with_reducible exact saturateref41_Solve.mono _ _ _)
   | (with_reducible exact LeO.refl _)
   | (with_reducible exact LeO.none _)
   | (with_reducible refine LeO.ite ?_ ?_)
   | (with_reducible refine LeO.bind ?_ (fun _ => ?_))
   | exact ih0 _ _ _ _ _ _ _
   | exact ih1 _ _ _ _ _ _ _ _ _ _ _
   | exact ih2 _ _ _ _ _ _ _ _ _
   | exact ih3 _ _ _ _ _ _ _ _ _ _
   | exact ih4 _ _ _ _ _ _ _ _ _ _ _ _ _
   | exact saturatelaw41_few.mono _ _ _ _
   | exact saturatelaw41_lives.mono _
   | exact saturateref41_Same.mono _ _ _
   | exact saturateref41_Solve.mono _ _ _
   | exact LeO.none _
   | refine LeO.ite ?_ ?_
   | refine LeO.bind ?_ (fun _ => ?_)
  ·intro y0 y1 y2 y3 y4 y5 y6 y7 y8 y9
   unfold saturatelaw41_IlpLarge.l1
   repeat' first
   | (with_reducible exact ih0 _ _ _ _ _ _ _)
   | (with_reducible exact ih1 _ _ _ _ _ _ _ _ _ _ _)
   | (with_reducible exact ih2 _ _ _ _ _ _ _ _ _)
   | (with_reducible exact ih3 _ _ _ _ _ _ _ _ _ _)
   | (with_reducible exact ih4 _ _ _ _ _ _ _ _ _ _ _ _ _)
   | (with_reducible exact saturatelaw41_few.mono _ _ _ _)
   | (with_reducible exact saturatelaw41_lives.mono _)
   | (with_reducible exact saturateref41_Same.mono _ _ _)
   | (with_reducible exact saturateref41_Solve.mono _ _ _)
   | (with_reducible exact LeO.refl _)
   | (with_reducible exact LeO.none _)
   | (with_reducible refine LeO.ite ?_ ?_)
   | (with_reducible refine LeO.bind ?_ (fun _ => ?_))
   | exact ih0 _ _ _ _ _ _ _
   | exact ih1 _ _ _ _ _ _ _ _ _ _ _
   | exact ih2 _ _ _ _ _ _ _ _ _
   | exact ih3 _ _ _ _ _ _ _ _ _ _
   | exact ih4 _ _ _ _ _ _ _ _ _ _ _ _ _
   | exact saturatelaw41_few.mono _ _ _ _
   | exact saturatelaw41_lives.mono _
   | exact saturateref41_Same.mono _ _ _
   | exact saturateref41_Solve.mono _ _ _
   | exact LeO.none _
   | refine LeO.ite ?_ ?_
   | refine LeO.bind ?_ (fun _ => ?_)
  ·intro y0 y1 y2 y3 y4 y5 y6 y7 y8 y9 y10 y11 y12
   unfold saturatelaw41_IlpLarge.l2
   repeat' first
   | (with_reducible exact ih0 _ _ _ _ _ _ _)
   | (with_reducible exact ih1 _ _ _ _ _ _ _ _ _ _ _)
   | (with_reducible exact ih2 _ _ _ _ _ _ _ _ _)
   | (with_reducible exact ih3 _ _ _ _ _ _ _ _ _ _)
   | (with_reducible exact ih4 _ _ _ _ _ _ _ _ _ _ _ _ _)
   | (with_reducible exact saturatelaw41_few.mono _ _ _ _)
   | (with_reducible exact saturatelaw41_lives.mono _)
   | (with_reducible exact saturateref41_Same.mono _ _ _)
   | (with_reducible exact saturateref41_Solve.mono _ _ _)
   | (with_reducible exact LeO.refl _)
   | (with_reducible exact LeO.none _)
   | (with_reducible refine LeO.ite ?_ ?_)
   | (with_reducible refine LeO.bind ?_ (fun _ => ?_))
   | exact ih0 _ _ _ _ _ _ _
   | exact ih1 _ _ _ _ _ _ _ _ _ _ _
   | exact ih2 _ _ _ _ _ _ _ _ _
   | exact ih3 _ _ _ _ _ _ _ _ _ _
   | exact ih4 _ _ _ _ _ _ _ _ _ _ _ _ _
   | exact saturatelaw41_few.mono _ _ _ _
   | exact saturatelaw41_lives.mono _
   | exact saturateref41_Same.mono _ _ _
   | exact saturateref41_Solve.mono _ _ _
   | exact LeO.none _
   | refine LeO.ite ?_ ?_
   | refine LeO.bind ?_ (fun _ => ?_)
theorem saturatelaw41_IlpLarge.mono : ∀ a0 k, LeO (saturatelaw41_IlpLarge.f k a0) (saturatelaw41_IlpLarge.f (k + 1) a0) := by
 intro a0 k
 obtain ⟨ih0, ih1, ih2, ih3, ih4⟩ := saturatelaw41_IlpLarge.mono_l k
 unfold saturatelaw41_IlpLarge.f
 repeat' first
   | (with_reducible exact ih0 _ _ _ _ _ _ _)
   | (with_reducible exact ih1 _ _ _ _ _ _ _ _ _ _ _)
   | (with_reducible exact ih2 _ _ _ _ _ _ _ _ _)
   | (with_reducible exact ih3 _ _ _ _ _ _ _ _ _ _)
   | (with_reducible exact ih4 _ _ _ _ _ _ _ _ _ _ _ _ _)
   | (with_reducible exact saturatelaw41_few.mono _ _ _ _)
   | (with_reducible exact saturatelaw41_lives.mono _)
   | (with_reducible exact saturateref41_Same.mono _ _ _)
   | (with_reducible exact saturateref41_Solve.mono _ _ _)
   | (with_reducible exact LeO.refl _)
   | (with_reducible exact LeO.none _)
   | (with_reducible refine LeO.ite ?_ ?_)
   | (with_reducible refine LeO.bind ?_ (fun _ => ?_))
   | exact ih0 _ _ _ _ _ _ _
   | exact ih1 _ _ _ _ _ _ _ _ _ _ _
   | exact ih2 _ _ _ _ _ _ _ _ _
   | exact ih3 _ _ _ _ _ _ _ _ _ _
   | exact ih4 _ _ _ _ _ _ _ _ _ _ _ _ _
   | exact saturatelaw41_few.mono _ _ _ _
   | exact saturatelaw41_lives.mono _
   | exact saturateref41_Same.mono _ _ _
   | exact saturateref41_Solve.mono _ _ _
   | exact LeO.none _
   | refine LeO.ite ?_ ?_
   | refine LeO.bind ?_ (fun _ => ?_)
def saturatelaw41_IlpLarge.T26 : Bool × List (List Nat × List Nat) := (true, [([], []), ([0], [0]), ([], []), ([], []), ([2, 3], [2, 3]), ([4], [4]), ([5], [5]), ([1, 6], [1, 6]), ([0, 1, 2, 3, 4, 5, 6, 7], []), ([8, 7, 7, 0, 1, 2, 3, 4, 5, 6, 7], [7, 8])])
def saturatelaw41_IlpLarge.B26 : List Nat := [0, 1, 0, 0, 12, 28, 60, 127, 255, 511]
theorem saturatelaw41_IlpLarge.tab26 : rtab .any (opsOf Try.f5 26) = saturatelaw41_IlpLarge.T26 := by kernel_rfl
theorem saturatelaw41_IlpLarge.bits26 : waitsOk saturatelaw41_IlpLarge.T26.2 saturatelaw41_IlpLarge.B26 = true := by kernel_rfl
set_option maxHeartbeats 8000000 in
set_option maxRecDepth 100000 in
theorem saturatelaw41_IlpLarge.calls (k : Nat) (A0 : Option Addr) (c0 : Nat) (l0 : List (S25)) (r : Bool) (w : World) (hr0 : Kd.C k25 w A0 l0.length l0) (hc0 : l0.length ≤ c0) (h : saturatelaw41_IlpLarge.f k l0 = some r) (hrT0 : r = true) :
  Calls Try.prog 5 #[.slice A0 l0.length c0] w fun e w' => e = .returned (.bool r) ∧ Below w.heap.size w w' := by
 have hrT := Aside0.mk hrT0
 clear hrT0
 have hu25 := Try.underlying25
 have hu43 := Try.underlying43
 have hu45 := Try.underlying45
 have HR0 := Aside0.mk hr0
 have HC0 := Aside0.mk hc0
 clear hr0 hc0
 have HB := Aside0.mk (Below.refl w.heap.size w)
 have H : (if (l0.length : Int) > 3 then ((saturatelaw41_lives.f k).bind fun t331 => (some t331)) else (saturatelaw41_IlpLarge.l0 k l0 ([] : List Bool) 0 true 0 ([] : List Int) ([] : List (S43)))) = some r := h
 clear h
 by_cases c2 : (l0.length : Int) > 3
 ·rw [if_pos c2] at H
  have c2b0 : decide (3 < (l0.length : Int)) = true := decide_eq_true c2
  have c2b1 : decide (3 < l0.length) = true := decide_eq_true (by omega)
  clear c2
  replace H := Option.bind_eq_some_iff.mp H
  obtain ⟨t331, A30, H⟩ := H
  replace H : (some t331) = some r := H
  have A3 := Aside0.mk A30
  clear A30
  obtain rfl := Option.some.inj H
  go_enter Try.func5, Try.ntmps5
  go_wp2_with (first | ((with_reducible refine gate_callee (f := 9) rfl ?_); refine goesL_ (some 21) rfl rfl Try.func9 (by kernel_rfl) rfl #[] rfl (by (try simp only [List.map_toArray, List.map_cons, List.map_nil]); first | done | rfl | (simp only [List.length_drop, List.length_take]; rfl)) ?_; (with_reducible refine (saturatelaw41_lives.calls k  t331 _ A3.out).mono ?_); rintro e w4 ⟨rfl, hb⟩; refine ⟨_, rfl, ?_⟩; have n0_ := Aside0.mk (below_step (by repeat (first | (with_reducible first | exact HB.out | apply below_alloc | apply pw_below_drewN | apply below_drew1) | exact HB.out)) hb); clear HB; have HB := n0_; clear n0_; (try clear hb); (try clear hb2); (try clear hk); (try clear hi)))
  go_ret
  exact ⟨by first | rfl | (simp [errW_none, errW_some] <;> rfl) | (simp [*, errW_none, errW_some] <;> rfl), by repeat (first | (with_reducible first | exact HB.out | apply below_alloc | apply pw_below_drewN | apply below_drew1) | exact HB.out)⟩
 ·rw [if_neg c2] at H
  have c2b0 : decide (3 < (l0.length : Int)) = false := decide_eq_false c2
  have c2b1 : decide (3 < l0.length) = false := decide_eq_false (by omega)
  clear c2
  have H' := Aside0.mk H
  clear H
  go_enter Try.func5, Try.ntmps5
  go_wp2_with (first | ((with_reducible refine gate_dst (N := 3) rfl ?_); (try (refine gate_guard (by rfl) ?_; dsimp only)); refine box_event ?hg (N := 3) ?hd (cs := #[.slice none 0 0, .slice none 0 0]) (t := 25) ?hr ?_; (case hd => rfl); (case hg => rfl); (case hr => first | (go_simp; done) | (go_simp; rfl)); intro gb332 hg w5 hbox hb; have n0_ := Aside0.mk (below_step (by repeat (first | (with_reducible first | exact HB.out | apply below_alloc | apply pw_below_drewN | apply below_drew1) | exact HB.out)) hb); have n1_ := Aside0.mk (hbox); have n2_ := Aside0.mk ((by rw [hg]; exact (below_size (by repeat (first | (with_reducible first | exact HB.out | apply below_alloc | apply pw_below_drewN | apply below_drew1) | exact HB.out))) : w.heap.size ≤ gb332)); have n3_ := Aside0.mk ((by rw [hg]; exact (below_size (by repeat (first | (with_reducible first | exact HB.out | apply below_alloc | apply pw_below_drewN | apply below_drew1) | exact HB.out))) : w.heap.size ≤ gb332)); clear HB; have HB := n0_; have BK332 := n1_; have GW332 := n2_; have GE332 := n3_; clear n0_ n1_ n2_ n3_; clear hb hbox hg))
  go_loopg [4, 5, 6, 7] k (fun kq v4 v5 v6 v7 w' => ∃ (x4_1 : List Bool) (x5_1 : Int) (x6_1 : Bool) (x7_1 : Int) (x333000_1 : List Int) (x333001_1 : List (S43)) (u333000 : Value) (u333001 : Value), v5 = .int .i64 x5_1 ∧ v6 = .bool x6_1 ∧ v7 = .int .i64 x7_1 ∧ Aside0 (saturatelaw41_IlpLarge.l0 kq l0 x4_1 x5_1 x6_1 x7_1 x333000_1 x333001_1 = some r) ∧ Aside0 (kq ≤ k) ∧ Aside0 (Kd.R Kd.bool 4 w' w.heap.size (fun _ => True) v4 x4_1) ∧ Aside0 (Kd.R (Kd.int .i64) 2 w' w.heap.size (fun _ => True) u333000 x333000_1) ∧ Aside0 (Kd.S k43 43 w' w.heap.size (fun _ => True) u333001 x333001_1) ∧ Aside0 (w'.heap[gb332]? = some (.cells #[u333000, u333001] 25 (0, 0))) ∧ Aside0 (Below w.heap.size w w'))
  case atStart => exact ⟨(([] : List Bool)), (0), (true), (0), (([] : List Int)), (([] : List (S43))), (.slice none 0 0), (.slice none 0 0), (by first | rfl | (simp; done) | (simp [*]; done)), (by first | rfl | (simp; done) | (simp [*]; done)), (by first | rfl | (simp; done) | (simp [*]; done)), H', ⟨Nat.le_refl _⟩, ⟨by first | exact Kd.R_nil _ _ _ _ _ | exact Kd.N_nil _ _ _ _ _ | exact Kd.V_nil _ _ _ _ _ | exact Kd.Q_nil _ _ _ _ _ | exact Kd.S_nil _ _ _ _ _⟩, ⟨by first | exact Kd.R_nil _ _ _ _ _ | exact Kd.N_nil _ _ _ _ _ | exact Kd.V_nil _ _ _ _ _ | exact Kd.Q_nil _ _ _ _ _ | exact Kd.S_nil _ _ _ _ _⟩, ⟨by first | exact Kd.S_nil _ _ _ _ _ | exact Kd.N_nil _ _ _ _ _ | exact Kd.V_nil _ _ _ _ _ | exact Kd.Q_nil _ _ _ _ _ | exact Kd.R_nil _ _ _ _ _⟩, ⟨by (with_reducible repeat (first | refine blk_drewN ?_ _ | refine blk_drew ?_ | refine blk_alloc ?_ _)); exact BK332.out⟩, ⟨by repeat (first | (with_reducible first | exact HB.out | apply below_alloc | apply pw_below_drewN | apply below_drew1 | refine below_set ?_ GE332.out) | exact HB.out)⟩⟩
  case round =>
   clear H'
   try clear c2
   try clear c2b0
   try clear c2b1
   try clear p2
   try clear c5
   obtain ⟨x4_1, x5_1, x6_1, x7_1, x333000_1, x333001_1, u333000, u333001, rfl, rfl, rfl, HA, HK1, HO_4, HO_333000, HO_333001, BK332, HB⟩ := hrel
   cases gk with
   | zero => exact absurd HA.out (by simp [saturatelaw41_IlpLarge.l0])
   | succ k1 =>
    have H := HA.out
    clear HA
    simp only [saturatelaw41_IlpLarge.l0] at H
    by_cases c6 : x7_1 < (l0.length : Int)
    ·rw [if_pos c6] at H
     have c6b0 : decide (x7_1 < (l0.length : Int)) = true := decide_eq_true c6
     clear c6
     by_cases c7 : 0 ≤ x7_1
     ·rw [if_pos c7] at H
      have c7b0 : decide (0 ≤ x7_1) = true := decide_eq_true c7
      clear c7
      replace H := Option.bind_eq_some_iff.mp H
      obtain ⟨t334, A80, H⟩ := H
      replace H : (if t334 = true then ((saturateref41_Solve.f k1 ((rd_T25 l0 x7_1).f0) ((rd_T25 l0 x7_1).f1)).bind fun bt337 => (if bt337.2.2 = 0 then (saturatelaw41_IlpLarge.j1 k1 l0 x4_1 x5_1 x6_1 x7_1 bt337.1 bt337.2.1 bt337.2.2 false x333000_1 x333001_1) else (saturatelaw41_IlpLarge.j1 k1 l0 x4_1 x5_1 x6_1 x7_1 bt337.1 bt337.2.1 bt337.2.2 (bt337.2.2 != 16) x333000_1 x333001_1))) else ((saturatelaw41_lives.f k1).bind fun t335 => (some t335))) = some r := H
      have A8 := Aside0.mk A80
      clear A80
      by_cases c9 : t334 = true
      ·subst c9
       have H1 : ((saturateref41_Solve.f k1 ((rd_T25 l0 x7_1).f0) ((rd_T25 l0 x7_1).f1)).bind fun bt337 => (if bt337.2.2 = 0 then (saturatelaw41_IlpLarge.j1 k1 l0 x4_1 x5_1 x6_1 x7_1 bt337.1 bt337.2.1 bt337.2.2 false x333000_1 x333001_1) else (saturatelaw41_IlpLarge.j1 k1 l0 x4_1 x5_1 x6_1 x7_1 bt337.1 bt337.2.1 bt337.2.2 (bt337.2.2 != 16) x333000_1 x333001_1))) = some r := by rw [if_pos rfl] at H; exact H
       clear H
       have H := H1
       clear H1
       replace H := Option.bind_eq_some_iff.mp H
       obtain ⟨⟨t337, t340, t341⟩, A100, H⟩ := H
       replace H : (if t341 = 0 then (saturatelaw41_IlpLarge.j1 k1 l0 x4_1 x5_1 x6_1 x7_1 t337 t340 t341 false x333000_1 x333001_1) else (saturatelaw41_IlpLarge.j1 k1 l0 x4_1 x5_1 x6_1 x7_1 t337 t340 t341 (t341 != 16) x333000_1 x333001_1)) = some r := H
       have A10 := Aside0.mk A100
       clear A100
       have HC11 := Aside0.mk H
       clear H
       have p333 : 0 ≤ (x7_1 : Int) := of_decide_eq_true (by first | (with_reducible assumption) | assumption)
       have q333 : x7_1 < (l0.length : Int) := of_decide_eq_true (by first | (with_reducible assumption) | assumption)
       obtain ⟨ad333, A333_0, c333_0, A333_1, c333_1, e333, hx333_0, hx333_1, hl333_0, hi333_0, hl333_1, hi333_1⟩ := at_T25 HR0.out x7_1 p333 q333
       cases e333
       replace hx333_0 := (HB.out.cell (World.block_lt_of_cell? w _ hx333_0)).trans hx333_0
       replace hx333_1 := (HB.out.cell (World.block_lt_of_cell? w _ hx333_1)).trans hx333_1
       have HR333_0 := Aside0.mk hi333_0
       have HC333_0 := Aside0.mk hl333_0
       clear hi333_0 hl333_0
       have HR333_1 := Aside0.mk hi333_1
       have HC333_1 := Aside0.mk hl333_1
       clear hi333_1 hl333_1
       replace p333 := eq_true p333
       replace q333 := eq_true q333
       go_upto_region 13 with (first | ((with_reducible refine gate_callee (f := 8) rfl ?_); refine goesL_ (some 32) rfl rfl Try.func8 (by kernel_rfl) rfl #[.agg #[.slice A333_0 ((rd_T25 l0 x7_1).f0).length c333_0, .slice A333_1 ((rd_T25 l0 x7_1).f1).length c333_1], .int .i64 6] rfl (by (try simp only [List.map_toArray, List.map_cons, List.map_nil]); first | done | rfl | (simp only [List.length_drop, List.length_take]; rfl)) ?_; (with_reducible refine (saturatelaw41_few.calls k1 _ _ ((rd_T25 l0 x7_1).f0) _ _ ((rd_T25 l0 x7_1).f1) 6 true _ ?side1 ?side2 ?side3 ?side4 A8.out).mono ?_); (case side1 => repeat (first | exact (Kd.C_below HR333_0.out HB.out) | (with_reducible refine Kd.C_alloc ?_ _) | (with_reducible refine Kd.C_drewN ?_ _) | (with_reducible refine Kd.C_drew ?_))); (case side2 => exact HC333_0.out); (case side3 => repeat (first | exact (Kd.C_below HR333_1.out HB.out) | (with_reducible refine Kd.C_alloc ?_ _) | (with_reducible refine Kd.C_drewN ?_ _) | (with_reducible refine Kd.C_drew ?_))); (case side4 => exact HC333_1.out); rintro e w12 ⟨rfl, hb⟩; refine ⟨_, rfl, ?_⟩; have n0_ := Aside0.mk (Kd.R_below (by (with_reducible repeat (first | apply Kd.R_alloc | apply Kd.R_drewN | apply Kd.R_drew)); exact HO_4.out) hb); have n1_ := Aside0.mk (Kd.R_below (by (with_reducible repeat (first | apply Kd.R_alloc | apply Kd.R_drewN | apply Kd.R_drew)); exact HO_333000.out) hb); have n2_ := Aside0.mk (Kd.S_below (by (with_reducible repeat (first | apply Kd.S_alloc | apply Kd.S_drewN | apply Kd.S_drew)); exact HO_333001.out) hb); have n3_ := Aside0.mk (blk_below (g := gb332) (o := .cells #[u333000, u333001] 25 (0, 0)) (by (with_reducible repeat (first | refine blk_drewN ?_ _ | refine blk_drew ?_ | refine blk_alloc ?_ _)); exact BK332.out) hb); have n4_ := Aside0.mk (below_step (by repeat (first | (with_reducible first | exact HB.out | apply below_alloc | apply pw_below_drewN | apply below_drew1 | refine below_set ?_ GE332.out) | exact HB.out)) hb); clear HO_4; clear HO_333000; clear HO_333001; clear BK332; clear HB; have HO_4 := n0_; have HO_333000 := n1_; have HO_333001 := n2_; have BK332 := n3_; have HB := n4_; clear n0_ n1_ n2_ n3_ n4_; (try clear hb); (try clear hb2); (try clear hk); (try clear hi); have p336 : 0 ≤ (x7_1 : Int) := of_decide_eq_true (by first | (with_reducible assumption) | assumption); have q336 : x7_1 < (l0.length : Int) := of_decide_eq_true (by first | (with_reducible assumption) | assumption); obtain ⟨ad336, A336_0, c336_0, A336_1, c336_1, e336, hx336_0, hx336_1, hl336_0, hi336_0, hl336_1, hi336_1⟩ := at_T25 HR0.out x7_1 p336 q336; obtain rfl : ad333 = ad336 := (by injection e336); replace hx336_0 := (HB.out.cell (World.block_lt_of_cell? w _ hx336_0)).trans hx336_0; replace hx336_1 := (HB.out.cell (World.block_lt_of_cell? w _ hx336_1)).trans hx336_1; have HR336_0 := Aside0.mk hi336_0; have HC336_0 := Aside0.mk hl336_0; clear hi336_0 hl336_0; have HR336_1 := Aside0.mk hi336_1; have HC336_1 := Aside0.mk hl336_1; clear hi336_1 hl336_1; replace p336 := eq_true p336; replace q336 := eq_true q336) | ((with_reducible refine gate_callee (f := 16) rfl ?_); refine goesL_ (some 40) rfl rfl Try.func16 (by kernel_rfl) rfl #[.agg #[.slice A336_0 ((rd_T25 l0 x7_1).f0).length c336_0, .slice A336_1 ((rd_T25 l0 x7_1).f1).length c336_1]] rfl (by (try simp only [List.map_toArray, List.map_cons, List.map_nil]); first | done | rfl | (simp only [List.length_drop, List.length_take]; rfl)) ?_; (with_reducible refine (saturateref41_Solve.calls k1 _ _ ((rd_T25 l0 x7_1).f0) _ _ ((rd_T25 l0 x7_1).f1) t337 t340 t341 _ ?side1 ?side2 ?side3 ?side4 A10.out).mono ?_); (case side1 => repeat (first | exact (Kd.C_below HR336_0.out HB.out) | (with_reducible refine Kd.C_alloc ?_ _) | (with_reducible refine Kd.C_drewN ?_ _) | (with_reducible refine Kd.C_drew ?_))); (case side2 => exact HC336_0.out); (case side3 => repeat (first | exact (Kd.C_below HR336_1.out HB.out) | (with_reducible refine Kd.C_alloc ?_ _) | (with_reducible refine Kd.C_drewN ?_ _) | (with_reducible refine Kd.C_drew ?_))); (case side4 => exact HC336_1.out); rintro e w13 ⟨v338, rfl, ho0, hb⟩; refine ⟨_, rfl, ?_⟩; have n0_ := Aside0.mk (Kd.R_elder' (by (with_reducible repeat (first | apply Kd.R_alloc | apply Kd.R_drewN | apply Kd.R_drew)); exact HO_4.out) (Kd.R_base ho0) hb); have n1_ := Aside0.mk (Kd.R_below (by (with_reducible repeat (first | apply Kd.R_alloc | apply Kd.R_drewN | apply Kd.R_drew)); exact HO_333000.out) hb); have n2_ := Aside0.mk (Kd.S_below (by (with_reducible repeat (first | apply Kd.S_alloc | apply Kd.S_drewN | apply Kd.S_drew)); exact HO_333001.out) hb); have n3_ := Aside0.mk (Kd.R_lower (Kd.R_new' ho0 (Kd.R_lt (by (with_reducible repeat (first | apply Kd.R_alloc | apply Kd.R_drewN | apply Kd.R_drew)); exact HO_4.out))) (below_size (by repeat (first | (with_reducible first | exact HB.out | apply below_alloc | apply pw_below_drewN | apply below_drew1 | refine below_set ?_ GE332.out) | exact HB.out)))); have n4_ := Aside0.mk (blk_below (g := gb332) (o := .cells #[u333000, u333001] 25 (0, 0)) (by (with_reducible repeat (first | refine blk_drewN ?_ _ | refine blk_drew ?_ | refine blk_alloc ?_ _)); exact BK332.out) hb); have n5_ := Aside0.mk (below_step (by repeat (first | (with_reducible first | exact HB.out | apply below_alloc | apply pw_below_drewN | apply below_drew1 | refine below_set ?_ GE332.out) | exact HB.out)) hb); clear HO_4; clear HO_333000; clear HO_333001; clear BK332; clear HB; have HO_4 := n0_; have HO_333000 := n1_; have HO_333001 := n2_; have HO339 := n3_; have BK332 := n4_; have HB := n5_; clear n0_ n1_ n2_ n3_ n4_ n5_; (try clear hb); (try clear hb2); (try clear hk); (try clear hi); (try clear ho0)))
       (try simp only [Act.put, List.setIfInBounds_toArray, List.set_cons_zero, List.set_cons_succ])
       go_cut [49] (fun v49 wc => ∃ (kq : Nat) (x49_10 : Bool), v49 = .bool x49_10 ∧ Aside0 (saturatelaw41_IlpLarge.j1 kq l0 x4_1 x5_1 x6_1 x7_1 t337 t340 t341 x49_10 x333000_1 x333001_1 = some r) ∧ Aside0 (kq ≤ k1) ∧ Aside0 (Kd.R Kd.bool 4 wc w.heap.size (fun k_ => some k_ ≠ (v338 : Value).ownBlock) u4 x4_1) ∧ Aside0 (Kd.R Kd.bool 4 wc w.heap.size (fun k_ => some k_ ≠ (u4 : Value).ownBlock) v338 t337) ∧ Aside0 (Kd.R (Kd.int .i64) 2 wc w.heap.size (fun _ => True) u333000 x333000_1) ∧ Aside0 (Kd.S k43 43 wc w.heap.size (fun _ => True) u333001 x333001_1) ∧ Aside0 (wc.heap[gb332]? = some (.cells #[u333000, u333001] 25 (0, 0))) ∧ Aside0 (Below w.heap.size w wc))
       case first =>
        have H := HC11.out
        clear HC11
        by_cases c14 : t341 = 0
        ·rw [if_pos c14] at H
         have c14b0 : (t341 == 0) = true := beq_iff_eq.mpr c14
         have c14b1 : (t341 != 0) = false := bne_eq_false_iff_eq.mpr c14
         clear c14
         (first | rw [c14b0] | (simp only [i64_w, i32_w]; rw [c14b0]) | skip)
         have H' := Aside0.mk H
         clear H
         go_wp2
         go_meet
         case rel => exact ⟨_, (false), (by first | rfl | (simp; done) | (simp [*]; done)), H', ⟨by have := HK1.out; first | omega | exact Nat.le_refl _⟩, ⟨by (with_reducible repeat (first | apply Kd.R_alloc | apply Kd.R_drewN | apply Kd.R_drew)); exact Kd.R_mono HO_4.out (fun _ hk => hk.2)⟩, ⟨by (with_reducible repeat (first | apply Kd.R_alloc | apply Kd.R_drewN | apply Kd.R_drew)); exact Kd.R_mono HO339.out (fun _ hk => hk.2)⟩, ⟨by (with_reducible repeat (first | apply Kd.R_alloc | apply Kd.R_drewN | apply Kd.R_drew)); exact HO_333000.out⟩, ⟨by (with_reducible repeat (first | apply Kd.S_alloc | apply Kd.S_drewN | apply Kd.S_drew)); exact HO_333001.out⟩, ⟨by (with_reducible repeat (first | refine blk_drewN ?_ _ | refine blk_drew ?_ | refine blk_alloc ?_ _)); exact BK332.out⟩, ⟨by repeat (first | (with_reducible first | exact HB.out | apply below_alloc | apply pw_below_drewN | apply below_drew1 | refine below_set ?_ GE332.out) | exact HB.out)⟩⟩
        ·rw [if_neg c14] at H
         have c14b0 : (t341 == 0) = false := beq_eq_false_iff_ne.mpr c14
         have c14b1 : (t341 != 0) = true := bne_iff_ne.mpr c14
         (first | rw [c14b0] | (simp only [i64_w, i32_w]; rw [c14b0]) | skip)
         have H' := Aside0.mk H
         clear H
         go_wp2
         go_meet
         case rel => exact ⟨_, ((t341 != 16)), (by first | rfl | (simp; done) | (simp [*]; done)), H', ⟨by have := HK1.out; first | omega | exact Nat.le_refl _⟩, ⟨by (with_reducible repeat (first | apply Kd.R_alloc | apply Kd.R_drewN | apply Kd.R_drew)); exact Kd.R_mono HO_4.out (fun _ hk => hk.2)⟩, ⟨by (with_reducible repeat (first | apply Kd.R_alloc | apply Kd.R_drewN | apply Kd.R_drew)); exact Kd.R_mono HO339.out (fun _ hk => hk.2)⟩, ⟨by (with_reducible repeat (first | apply Kd.R_alloc | apply Kd.R_drewN | apply Kd.R_drew)); exact HO_333000.out⟩, ⟨by (with_reducible repeat (first | apply Kd.S_alloc | apply Kd.S_drewN | apply Kd.S_drew)); exact HO_333001.out⟩, ⟨by (with_reducible repeat (first | refine blk_drewN ?_ _ | refine blk_drew ?_ | refine blk_alloc ?_ _)); exact BK332.out⟩, ⟨by repeat (first | (with_reducible first | exact HB.out | apply below_alloc | apply pw_below_drewN | apply below_drew1 | refine below_set ?_ GE332.out) | exact HB.out)⟩⟩
       case rest =>
        clear HC11
        try clear c1
        try clear c2
        try clear c2b0
        try clear c2b1
        try clear p2
        try clear c3
        try clear p3
        try clear q3
        try clear hx3
        try clear c5
        try clear c6
        try clear c6b0
        try clear c7
        try clear c7b0
        try clear c8
        try clear c9
        try clear c14
        try clear c14b0
        try clear c14b1
        try clear hx333_0
        try clear hx333_1
        try clear hx336_0
        try clear hx336_1
        try clear p2
        try clear p333
        try clear p336
        try clear q333
        try clear q336
        obtain ⟨kq, x49_10, rfl, HA, HJ10, HO_4, HO_8, HO_333000, HO_333001, BK332, HB⟩ := hcut
        cases kq with
        | zero => exact absurd HA.out (by simp [saturatelaw41_IlpLarge.j1])
        | succ kj10 =>
         have H := HA.out
         clear HA
         simp only [saturatelaw41_IlpLarge.j1] at H
         by_cases c15 : x49_10 = true
         ·subst c15
          have H1 : ((saturatelaw41_lives.f kj10).bind fun t342 => (some t342)) = some r := by rw [if_pos rfl] at H; exact H
          clear H
          have H := H1
          clear H1
          replace H := Option.bind_eq_some_iff.mp H
          obtain ⟨t342, A160, H⟩ := H
          replace H : (some t342) = some r := H
          have A16 := Aside0.mk A160
          clear A160
          obtain rfl := Option.some.inj H
          go_wp2_with (first | ((with_reducible refine gate_callee (f := 9) rfl ?_); refine goesL_ (some 50) rfl rfl Try.func9 (by kernel_rfl) rfl #[] rfl (by (try simp only [List.map_toArray, List.map_cons, List.map_nil]); first | done | rfl | (simp only [List.length_drop, List.length_take]; rfl)) ?_; (with_reducible refine (saturatelaw41_lives.calls kj10  t342 _ A16.out).mono ?_); rintro e w17 ⟨rfl, hb⟩; refine ⟨_, rfl, ?_⟩; have n0_ := Aside0.mk (Kd.R_below (by (with_reducible repeat (first | apply Kd.R_alloc | apply Kd.R_drewN | apply Kd.R_drew)); exact HO_4.out) hb); have n1_ := Aside0.mk (Kd.R_below (by (with_reducible repeat (first | apply Kd.R_alloc | apply Kd.R_drewN | apply Kd.R_drew)); exact HO_8.out) hb); have n2_ := Aside0.mk (Kd.R_below (by (with_reducible repeat (first | apply Kd.R_alloc | apply Kd.R_drewN | apply Kd.R_drew)); exact HO_333000.out) hb); have n3_ := Aside0.mk (Kd.S_below (by (with_reducible repeat (first | apply Kd.S_alloc | apply Kd.S_drewN | apply Kd.S_drew)); exact HO_333001.out) hb); have n4_ := Aside0.mk (blk_below (g := gb332) (o := .cells #[u333000, u333001] 25 (0, 0)) (by (with_reducible repeat (first | refine blk_drewN ?_ _ | refine blk_drew ?_ | refine blk_alloc ?_ _)); exact BK332.out) hb); have n5_ := Aside0.mk (below_step (by repeat (first | (with_reducible first | exact HB.out | apply below_alloc | apply pw_below_drewN | apply below_drew1 | refine below_set ?_ GE332.out) | exact HB.out)) hb); clear HO_4; clear HO_8; clear HO_333000; clear HO_333001; clear BK332; clear HB; have HO_4 := n0_; have HO_8 := n1_; have HO_333000 := n2_; have HO_333001 := n3_; have BK332 := n4_; have HB := n5_; clear n0_ n1_ n2_ n3_ n4_ n5_; (try clear hb); (try clear hb2); (try clear hk); (try clear hi)))
          go_ret
          exact ⟨by first | rfl | (simp [errW_none, errW_some] <;> rfl) | (simp [*, errW_none, errW_some] <;> rfl), by repeat (first | (with_reducible first | exact HB.out | apply below_alloc | apply pw_below_drewN | apply below_drew1 | refine below_set ?_ GE332.out) | exact HB.out)⟩
         ·replace c15 := Bool.eq_false_iff.mpr c15
          subst c15
          have H1 : (if x6_1 = true then (saturatelaw41_IlpLarge.j2 kj10 l0 x4_1 x5_1 (t341 == 0) x7_1 t337 t340 x333000_1 x333001_1) else (saturatelaw41_IlpLarge.j2 kj10 l0 x4_1 x5_1 false x7_1 t337 t340 x333000_1 x333001_1)) = some r := by rw [if_neg (show ¬ (false = true) by decide)] at H; exact H
          clear H
          have H := H1
          clear H1
          have HC18 := Aside0.mk H
          clear H
          go_upto_region 15 with (fail)
          go_cut [6] (fun v6 wc => ∃ (kq : Nat) (x6_17 : Bool), v6 = .bool x6_17 ∧ Aside0 (saturatelaw41_IlpLarge.j2 kq l0 x4_1 x5_1 x6_17 x7_1 t337 t340 x333000_1 x333001_1 = some r) ∧ Aside0 (kq ≤ kj10) ∧ Aside0 (Kd.R Kd.bool 4 wc w.heap.size (fun k_ => some k_ ≠ (v338 : Value).ownBlock) u4 x4_1) ∧ Aside0 (Kd.R Kd.bool 4 wc w.heap.size (fun k_ => some k_ ≠ (u4 : Value).ownBlock) v338 t337) ∧ Aside0 (Kd.R (Kd.int .i64) 2 wc w.heap.size (fun _ => True) u333000 x333000_1) ∧ Aside0 (Kd.S k43 43 wc w.heap.size (fun _ => True) u333001 x333001_1) ∧ Aside0 (wc.heap[gb332]? = some (.cells #[u333000, u333001] 25 (0, 0))) ∧ Aside0 (Below w.heap.size w wc))
          case first =>
           have H := HC18.out
           clear HC18
           by_cases c19 : x6_1 = true
           ·subst c19
            have H1 : (saturatelaw41_IlpLarge.j2 kj10 l0 x4_1 x5_1 (t341 == 0) x7_1 t337 t340 x333000_1 x333001_1) = some r := by rw [if_pos rfl] at H; exact H
            clear H
            have H := H1
            clear H1
            have H' := Aside0.mk H
            clear H
            go_wp2
            go_meet
            case rel => exact ⟨_, ((t341 == 0)), (by first | rfl | (simp; done) | (simp [*]; done)), H', ⟨by have := HK1.out; have := HJ10.out; first | omega | exact Nat.le_refl _⟩, ⟨by (with_reducible repeat (first | apply Kd.R_alloc | apply Kd.R_drewN | apply Kd.R_drew)); exact HO_4.out⟩, ⟨by (with_reducible repeat (first | apply Kd.R_alloc | apply Kd.R_drewN | apply Kd.R_drew)); exact HO_8.out⟩, ⟨by (with_reducible repeat (first | apply Kd.R_alloc | apply Kd.R_drewN | apply Kd.R_drew)); exact HO_333000.out⟩, ⟨by (with_reducible repeat (first | apply Kd.S_alloc | apply Kd.S_drewN | apply Kd.S_drew)); exact HO_333001.out⟩, ⟨by (with_reducible repeat (first | refine blk_drewN ?_ _ | refine blk_drew ?_ | refine blk_alloc ?_ _)); exact BK332.out⟩, ⟨by repeat (first | (with_reducible first | exact HB.out | apply below_alloc | apply pw_below_drewN | apply below_drew1 | refine below_set ?_ GE332.out) | exact HB.out)⟩⟩
           ·replace c19 := Bool.eq_false_iff.mpr c19
            subst c19
            have H1 : (saturatelaw41_IlpLarge.j2 kj10 l0 x4_1 x5_1 false x7_1 t337 t340 x333000_1 x333001_1) = some r := by rw [if_neg (show ¬ (false = true) by decide)] at H; exact H
            clear H
            have H := H1
            clear H1
            have H' := Aside0.mk H
            clear H
            go_wp2
            go_meet
            case rel => exact ⟨_, (false), (by first | rfl | (simp; done) | (simp [*]; done)), H', ⟨by have := HK1.out; have := HJ10.out; first | omega | exact Nat.le_refl _⟩, ⟨by (with_reducible repeat (first | apply Kd.R_alloc | apply Kd.R_drewN | apply Kd.R_drew)); exact HO_4.out⟩, ⟨by (with_reducible repeat (first | apply Kd.R_alloc | apply Kd.R_drewN | apply Kd.R_drew)); exact HO_8.out⟩, ⟨by (with_reducible repeat (first | apply Kd.R_alloc | apply Kd.R_drewN | apply Kd.R_drew)); exact HO_333000.out⟩, ⟨by (with_reducible repeat (first | apply Kd.S_alloc | apply Kd.S_drewN | apply Kd.S_drew)); exact HO_333001.out⟩, ⟨by (with_reducible repeat (first | refine blk_drewN ?_ _ | refine blk_drew ?_ | refine blk_alloc ?_ _)); exact BK332.out⟩, ⟨by repeat (first | (with_reducible first | exact HB.out | apply below_alloc | apply pw_below_drewN | apply below_drew1 | refine below_set ?_ GE332.out) | exact HB.out)⟩⟩
          case rest =>
           clear HC18
           try clear c1
           try clear c2
           try clear c2b0
           try clear c2b1
           try clear p2
           try clear c3
           try clear p3
           try clear q3
           try clear hx3
           try clear c5
           try clear c6
           try clear c6b0
           try clear c7
           try clear c7b0
           try clear c8
           try clear c9
           try clear c14
           try clear c14b0
           try clear c14b1
           try clear c15
           try clear c16
           try clear c19
           try clear hx333_0
           try clear hx333_1
           try clear hx336_0
           try clear hx336_1
           try clear p2
           try clear p3
           try clear p333
           try clear p336
           try clear q3
           try clear q333
           try clear q336
           obtain ⟨kq, x6_17, rfl, HA, HJ17, HO_4, HO_8, HO_333000, HO_333001, BK332, HB⟩ := hcut
           cases kq with
           | zero => exact absurd HA.out (by simp [saturatelaw41_IlpLarge.j2])
           | succ kj17 =>
            have H := HA.out
            clear HA
            simp only [saturatelaw41_IlpLarge.j2] at H
            have H' := Aside0.mk H
            clear H
            go_wp2
            go_loopg [11] kj17 (fun kq v11 w' => ∃ (x11_4 : Int) (x333001_4 : List (S43)) (u333001 : Value), v11 = .int .i64 x11_4 ∧ Aside0 (saturatelaw41_IlpLarge.l1 kq l0 x4_1 x5_1 x6_17 x7_1 t337 t340 x11_4 x333000_1 x333001_4 = some r) ∧ Aside0 (kq ≤ kj17) ∧ Aside0 (Kd.R Kd.bool 4 w' w.heap.size (fun k_ => some k_ ≠ (v338 : Value).ownBlock) u4 x4_1) ∧ Aside0 (Kd.R Kd.bool 4 w' w.heap.size (fun k_ => some k_ ≠ (u4 : Value).ownBlock) v338 t337) ∧ Aside0 (Kd.R (Kd.int .i64) 2 w' w.heap.size (fun _ => True) u333000 x333000_1) ∧ Aside0 (Kd.S k43 43 w' w.heap.size (fun _ => True) u333001 x333001_4) ∧ Aside0 (w'.heap[gb332]? = some (.cells #[u333000, u333001] 25 (0, 0))) ∧ Aside0 (Below w.heap.size w w'))
            case atStart => exact ⟨(0), (x333001_1), (u333001), (by first | rfl | (simp; done) | (simp [*]; done)), H', ⟨Nat.le_refl _⟩, ⟨by (with_reducible repeat (first | apply Kd.R_alloc | apply Kd.R_drewN | apply Kd.R_drew)); exact HO_4.out⟩, ⟨by (with_reducible repeat (first | apply Kd.R_alloc | apply Kd.R_drewN | apply Kd.R_drew)); exact HO_8.out⟩, ⟨by (with_reducible repeat (first | apply Kd.R_alloc | apply Kd.R_drewN | apply Kd.R_drew)); exact HO_333000.out⟩, ⟨by (with_reducible repeat (first | apply Kd.S_alloc | apply Kd.S_drewN | apply Kd.S_drew)); exact HO_333001.out⟩, ⟨by (with_reducible repeat (first | refine blk_drewN ?_ _ | refine blk_drew ?_ | refine blk_alloc ?_ _)); exact BK332.out⟩, ⟨by repeat (first | (with_reducible first | exact HB.out | apply below_alloc | apply pw_below_drewN | apply below_drew1 | refine below_set ?_ GE332.out) | exact HB.out)⟩⟩
            case round =>
             clear H'
             try clear c1
             try clear c2
             try clear c2b0
             try clear c2b1
             try clear p2
             try clear c3
             try clear p3
             try clear q3
             try clear hx3
             try clear c5
             try clear c6
             try clear c6b0
             try clear c7
             try clear c7b0
             try clear c8
             try clear c9
             try clear c14
             try clear c14b0
             try clear c14b1
             try clear c15
             try clear c16
             try clear c19
             try clear hx333_0
             try clear hx333_1
             try clear hx336_0
             try clear hx336_1
             try clear p2
             try clear p3
             try clear p333
             try clear p336
             try clear q3
             try clear q333
             try clear q336
             obtain ⟨x11_4, x333001_4, u333001, rfl, HA, HK4, HO_4, HO_8, HO_333000, HO_333001, BK332, HB⟩ := hrel
             cases gk with
             | zero => exact absurd HA.out (by simp [saturatelaw41_IlpLarge.l1])
             | succ k4 =>
              have H := HA.out
              clear HA
              simp only [saturatelaw41_IlpLarge.l1] at H
              by_cases c20 : 0 ≤ x7_1
              ·rw [if_pos c20] at H
               have c20b0 : decide (0 ≤ x7_1) = true := decide_eq_true c20
               clear c20
               by_cases c21 : x7_1 < (l0.length : Int)
               ·rw [if_pos c21] at H
                have c21b0 : decide (x7_1 < (l0.length : Int)) = true := decide_eq_true c21
                clear c21
                by_cases c22 : x11_4 < (((rd_T25 l0 x7_1).f1).length : Int)
                ·rw [if_pos c22] at H
                 have c22b0 : decide (x11_4 < (((rd_T25 l0 x7_1).f1).length : Int)) = true := decide_eq_true c22
                 clear c22
                 by_cases c23 : 0 ≤ x11_4
                 ·rw [if_pos c23] at H
                  have c23b0 : decide (0 ≤ x11_4) = true := decide_eq_true c23
                  clear c23
                  have H' := Aside0.mk H
                  clear H
                  have p343 : 0 ≤ (x7_1 : Int) := of_decide_eq_true (by first | (with_reducible assumption) | assumption)
                  have q343 : x7_1 < (l0.length : Int) := of_decide_eq_true (by first | (with_reducible assumption) | assumption)
                  obtain ⟨ad343, A343_0, c343_0, A343_1, c343_1, e343, hx343_0, hx343_1, hl343_0, hi343_0, hl343_1, hi343_1⟩ := at_T25 HR0.out x7_1 p343 q343
                  obtain rfl : ad333 = ad343 := (by injection e343)
                  replace hx343_0 := (HB.out.cell (World.block_lt_of_cell? w _ hx343_0)).trans hx343_0
                  replace hx343_1 := (HB.out.cell (World.block_lt_of_cell? w _ hx343_1)).trans hx343_1
                  have HR343_0 := Aside0.mk hi343_0
                  have HC343_0 := Aside0.mk hl343_0
                  clear hi343_0 hl343_0
                  have HR343_1 := Aside0.mk hi343_1
                  have HC343_1 := Aside0.mk hl343_1
                  clear hi343_1 hl343_1
                  replace p343 := eq_true p343
                  replace q343 := eq_true q343
                  have p351 : 0 ≤ (x7_1 : Int) := of_decide_eq_true (by first | (with_reducible assumption) | assumption)
                  have q351 : x7_1 < (l0.length : Int) := of_decide_eq_true (by first | (with_reducible assumption) | assumption)
                  obtain ⟨ad351, A351_0, c351_0, A351_1, c351_1, e351, hx351_0, hx351_1, hl351_0, hi351_0, hl351_1, hi351_1⟩ := at_T25 HR0.out x7_1 p351 q351
                  obtain rfl : ad333 = ad351 := (by injection e351)
                  replace hx351_0 := (HB.out.cell (World.block_lt_of_cell? w _ hx351_0)).trans hx351_0
                  replace hx351_1 := (HB.out.cell (World.block_lt_of_cell? w _ hx351_1)).trans hx351_1
                  have HR351_0 := Aside0.mk hi351_0
                  have HC351_0 := Aside0.mk hl351_0
                  clear hi351_0 hl351_0
                  have HR351_1 := Aside0.mk hi351_1
                  have HC351_1 := Aside0.mk hl351_1
                  clear hi351_1 hl351_1
                  replace p351 := eq_true p351
                  replace q351 := eq_true q351
                  have ea_ := Option.some.inj (hx343_0.symm.trans hx351_0)
                  injection ea_ with ea_ en_ ec_
                  subst ea_
                  subst ec_
                  clear en_
                  have ea_ := Option.some.inj (hx343_1.symm.trans hx351_1)
                  injection ea_ with ea_ en_ ec_
                  subst ea_
                  subst ec_
                  clear en_
                  have p352 : 0 ≤ (x11_4 : Int) := of_decide_eq_true (by first | (with_reducible assumption) | assumption)
                  have q352 : x11_4 < (((rd_T25 l0 x7_1).f1).length : Int) := of_decide_eq_true (by first | (with_reducible assumption) | assumption)
                  obtain ⟨ad352, A352_0, c352_0, e352, hx352_0, hx352_1, hl352_0, hi352_0⟩ := at_T43 HR351_1.out x11_4 p352 q352
                  cases e352
                  replace hx352_0 := (HB.out.cell (World.block_lt_of_cell? w _ hx352_0)).trans hx352_0
                  replace hx352_1 := (HB.out.cell (World.block_lt_of_cell? w _ hx352_1)).trans hx352_1
                  have HR352_0 := Aside0.mk hi352_0
                  have HC352_0 := Aside0.mk hl352_0
                  clear hi352_0 hl352_0
                  replace p352 := eq_true p352
                  replace q352 := eq_true q352
                  go_wp2_with (first | ((with_reducible refine gate_dst (N := 12) rfl ?_); (try (refine gate_guard (by rfl) ?_; dsimp only)); refine box_event ?hg (N := 12) ?hd (cs := #[.slice none 0 0, .int .i64 0]) (t := 43) ?hr ?_; (case hd => rfl); (case hg => rfl); (case hr => first | (go_simp; done) | (go_simp; rfl)); intro gb353 hg w24 hbox hb; have n0_ := Aside0.mk (Kd.R_below (by (with_reducible repeat (first | apply Kd.R_alloc | apply Kd.R_drewN | apply Kd.R_drew)); exact HO_4.out) hb); have n1_ := Aside0.mk (Kd.R_below (by (with_reducible repeat (first | apply Kd.R_alloc | apply Kd.R_drewN | apply Kd.R_drew)); exact HO_8.out) hb); have n2_ := Aside0.mk (Kd.R_below (by (with_reducible repeat (first | apply Kd.R_alloc | apply Kd.R_drewN | apply Kd.R_drew)); exact HO_333000.out) hb); have n3_ := Aside0.mk (Kd.S_below (Kd.S_elderB (by (with_reducible repeat (first | apply Kd.S_alloc | apply Kd.S_drewN | apply Kd.S_drew)); exact HO_333001.out) gb353 (Nat.le_of_eq hg.symm)) hb); have n4_ := Aside0.mk (blk_below (g := gb332) (o := .cells #[u333000, u333001] 25 (0, 0)) (by (with_reducible repeat (first | refine blk_drewN ?_ _ | refine blk_drew ?_ | refine blk_alloc ?_ _)); exact BK332.out) hb); have n5_ := Aside0.mk (below_step (by repeat (first | (with_reducible first | exact HB.out | apply below_alloc | apply pw_below_drewN | apply below_drew1 | refine below_set ?_ GE332.out) | exact HB.out)) hb); have n6_ := Aside0.mk (hbox); have n7_ := Aside0.mk ((by rw [hg]; exact (below_size (by repeat (first | (with_reducible first | exact HB.out | apply below_alloc | apply pw_below_drewN | apply below_drew1 | refine below_set ?_ GE332.out) | exact HB.out))) : w.heap.size ≤ gb353)); have n8_ := Aside0.mk ((by rw [hg]; exact (below_size (by repeat (first | (with_reducible first | exact HB.out | apply below_alloc | apply pw_below_drewN | apply below_drew1 | refine below_set ?_ GE332.out) | exact HB.out))) : w.heap.size ≤ gb353)); have n9_ := Aside0.mk ((by rw [hg]; exact Nat.ne_of_lt (blk_lt (g := gb332) (o := .cells #[u333000, u333001] 25 (0, 0)) (by (with_reducible repeat (first | refine blk_drewN ?_ _ | refine blk_drew ?_ | refine blk_alloc ?_ _)); exact BK332.out)) : gb332 ≠ gb353)); have n10_ := Aside0.mk ((by rw [hg]; exact Nat.ne_of_gt (blk_lt (g := gb332) (o := .cells #[u333000, u333001] 25 (0, 0)) (by (with_reducible repeat (first | refine blk_drewN ?_ _ | refine blk_drew ?_ | refine blk_alloc ?_ _)); exact BK332.out)) : gb353 ≠ gb332)); clear HO_4; clear HO_8; clear HO_333000; clear HO_333001; clear BK332; clear HB; have HO_4 := n0_; have HO_8 := n1_; have HO_333000 := n2_; have HO_333001 := n3_; have BK332 := n4_; have HB := n5_; have BK353 := n6_; have GW353 := n7_; have GE353 := n8_; have NB332_353 := n9_; have NB353_332 := n10_; clear n0_ n1_ n2_ n3_ n4_ n5_ n6_ n7_ n8_ n9_ n10_; clear hb hbox hg; have hnb25 := NB353_332.out; have hnc25 := NB332_353.out; have hcz26_0 : w24.cell? ⟨gb353, 0, none⟩ = some (.slice none 0 0) := (blk_cell BK353.out 0).trans rfl; have hcz26_1 : w24.cell? ⟨gb353, 1, none⟩ = some (.int .i64 0) := (blk_cell BK353.out 1).trans rfl; have hfz26_0 := blk_frozen BK353.out 0; have hfz26_1 := blk_frozen BK353.out 1))
                  go_loopg [13] k4 (fun kq v13 w' => ∃ (x13_5 : Int) (x354000_5 : List (S45)) (u354000 : Value), v13 = .int .i64 x13_5 ∧ Aside0 (saturatelaw41_IlpLarge.l2 kq l0 x4_1 x5_1 x6_17 x7_1 t337 t340 x11_4 x13_5 x333000_1 x333001_4 x354000_5 ((rd_T43 ((rd_T25 l0 x7_1).f1) x11_4).f1) = some r) ∧ Aside0 (kq ≤ k4) ∧ Aside0 (Kd.R Kd.bool 4 w' w.heap.size (fun k_ => some k_ ≠ (v338 : Value).ownBlock) u4 x4_1) ∧ Aside0 (Kd.R Kd.bool 4 w' w.heap.size (fun k_ => some k_ ≠ (u4 : Value).ownBlock) v338 t337) ∧ Aside0 (Kd.R (Kd.int .i64) 2 w' w.heap.size (fun _ => True) u333000 x333000_1) ∧ Aside0 (Kd.S k43 43 w' w.heap.size (fun k_ => some k_ ≠ (u354000 : Value).ownBlock ∧ k_ ≠ gb353) u333001 x333001_4) ∧ Aside0 (Kd.R k45 45 w' w.heap.size (fun _ => True) u354000 x354000_5) ∧ Aside0 (w'.heap[gb332]? = some (.cells #[u333000, u333001] 25 (0, 0))) ∧ Aside0 (w'.heap[gb353]? = some (.cells #[u354000, .int .i64 ((rd_T43 ((rd_T25 l0 x7_1).f1) x11_4).f1)] 43 (0, 0))) ∧ Aside0 (Below w.heap.size w w'))
                  case atStart => exact ⟨(0), (([] : List (S45))), (.slice none 0 0), (by first | rfl | (simp; done) | (simp [*]; done)), H', ⟨Nat.le_refl _⟩, ⟨by (with_reducible repeat (first | apply Kd.R_alloc | apply Kd.R_drewN | apply Kd.R_drew)); exact Kd.R_mono (Kd.R_far (p := ⟨gb353, 1, none⟩) (Kd.R_far (p := ⟨gb353, 0, none⟩) (Kd.R_types HO_4.out BK353.out (by decide)) (fun _ hk => hk.2) (.slice none 0 0)) (fun _ hk => hk.2) (.int .i64 ((rd_T43 ((rd_T25 l0 x7_1).f1) x11_4).f1))) (fun _ hk => hk.1)⟩, ⟨by (with_reducible repeat (first | apply Kd.R_alloc | apply Kd.R_drewN | apply Kd.R_drew)); exact Kd.R_mono (Kd.R_far (p := ⟨gb353, 1, none⟩) (Kd.R_far (p := ⟨gb353, 0, none⟩) (Kd.R_types HO_8.out BK353.out (by decide)) (fun _ hk => hk.2) (.slice none 0 0)) (fun _ hk => hk.2) (.int .i64 ((rd_T43 ((rd_T25 l0 x7_1).f1) x11_4).f1))) (fun _ hk => hk.1)⟩, ⟨by (with_reducible repeat (first | apply Kd.R_alloc | apply Kd.R_drewN | apply Kd.R_drew)); exact Kd.R_mono (Kd.R_far (p := ⟨gb353, 1, none⟩) (Kd.R_far (p := ⟨gb353, 0, none⟩) (Kd.R_types HO_333000.out BK353.out (by decide)) (fun _ hk => hk.2) (.slice none 0 0)) (fun _ hk => hk.2) (.int .i64 ((rd_T43 ((rd_T25 l0 x7_1).f1) x11_4).f1))) (fun _ hk => trivial)⟩, ⟨by (with_reducible repeat (first | apply Kd.S_alloc | apply Kd.S_drewN | apply Kd.S_drew)); exact Kd.S_mono (Kd.S_far (p := ⟨gb353, 1, none⟩) (Kd.S_far (p := ⟨gb353, 0, none⟩) (Kd.S_mono HO_333001.out (fun k_ hk => (⟨hk, hk.2⟩ : _ ∧ k_ ≠ gb353))) (fun _ hk => hk.2) (.slice none 0 0)) (fun _ hk => hk.2) (.int .i64 ((rd_T43 ((rd_T25 l0 x7_1).f1) x11_4).f1))) (fun _ hk => ⟨(by simp [Value.ownBlock]), hk.1.2⟩)⟩, ⟨by first | exact Kd.R_nil _ _ _ _ _ | exact Kd.N_nil _ _ _ _ _ | exact Kd.V_nil _ _ _ _ _ | exact Kd.Q_nil _ _ _ _ _ | exact Kd.S_nil _ _ _ _ _⟩, ⟨by (with_reducible repeat (first | refine blk_drewN ?_ _ | refine blk_drew ?_ | refine blk_alloc ?_ _)); refine blk_far ?_ NB332_353.out _; (with_reducible repeat (first | refine blk_drewN ?_ _ | refine blk_drew ?_ | refine blk_alloc ?_ _)); refine blk_far ?_ NB332_353.out _; (with_reducible repeat (first | refine blk_drewN ?_ _ | refine blk_drew ?_ | refine blk_alloc ?_ _)); exact BK332.out⟩, ⟨by (with_reducible repeat (first | refine blk_drewN ?_ _ | refine blk_drew ?_ | refine blk_alloc ?_ _)); refine blk_put (cs := #[.slice none 0 0, .int .i64 0]) ?_ 1 _ rfl; (with_reducible repeat (first | refine blk_drewN ?_ _ | refine blk_drew ?_ | refine blk_alloc ?_ _)); refine blk_put (cs := #[.slice none 0 0, .int .i64 0]) ?_ 0 _ rfl; (with_reducible repeat (first | refine blk_drewN ?_ _ | refine blk_drew ?_ | refine blk_alloc ?_ _)); exact BK353.out⟩, ⟨by repeat (first | (with_reducible first | exact HB.out | apply below_alloc | apply pw_below_drewN | apply below_drew1 | refine below_set ?_ GE332.out | refine below_set ?_ GE353.out) | exact HB.out)⟩⟩
                  case round =>
                   clear H'
                   try clear c1
                   try clear c2
                   try clear c2b0
                   try clear c2b1
                   try clear p2
                   try clear c3
                   try clear p3
                   try clear q3
                   try clear hx3
                   try clear c5
                   try clear c6
                   try clear c6b0
                   try clear c7
                   try clear c7b0
                   try clear c8
                   try clear c9
                   try clear c14
                   try clear c14b0
                   try clear c14b1
                   try clear c15
                   try clear c16
                   try clear c19
                   try clear c20
                   try clear c20b0
                   try clear c21
                   try clear c21b0
                   try clear c22
                   try clear c22b0
                   try clear c23
                   try clear c23b0
                   try clear c25
                   try clear hcz26_0
                   try clear hcz26_1
                   try clear hfz26_0
                   try clear hfz26_1
                   try clear hx333_0
                   try clear hx333_1
                   try clear hx336_0
                   try clear hx336_1
                   try clear hx343_0
                   try clear hx343_1
                   try clear hx351_0
                   try clear hx351_1
                   try clear hx352_0
                   try clear hx352_1
                   try clear p2
                   try clear p3
                   try clear p333
                   try clear p336
                   try clear p343
                   try clear p351
                   try clear p352
                   try clear q3
                   try clear q333
                   try clear q336
                   try clear q343
                   try clear q351
                   try clear q352
                   obtain ⟨x13_5, x354000_5, u354000, rfl, HA, HK5, HO_4, HO_8, HO_333000, HO_333001, HO_354000, BK332, BK353, HB⟩ := hrel
                   cases gk with
                   | zero => exact absurd HA.out (by simp [saturatelaw41_IlpLarge.l2])
                   | succ k5 =>
                    have H := HA.out
                    clear HA
                    simp only [saturatelaw41_IlpLarge.l2] at H
                    by_cases c27 : 0 ≤ x7_1
                    ·rw [if_pos c27] at H
                     have c27b0 : decide (0 ≤ x7_1) = true := decide_eq_true c27
                     clear c27
                     by_cases c28 : x7_1 < (l0.length : Int)
                     ·rw [if_pos c28] at H
                      have c28b0 : decide (x7_1 < (l0.length : Int)) = true := decide_eq_true c28
                      clear c28
                      by_cases c29 : 0 ≤ x11_4
                      ·rw [if_pos c29] at H
                       have c29b0 : decide (0 ≤ x11_4) = true := decide_eq_true c29
                       clear c29
                       by_cases c30 : x11_4 < (((rd_T25 l0 x7_1).f1).length : Int)
                       ·rw [if_pos c30] at H
                        have c30b0 : decide (x11_4 < (((rd_T25 l0 x7_1).f1).length : Int)) = true := decide_eq_true c30
                        clear c30
                        by_cases c31 : x13_5 < (((rd_T43 ((rd_T25 l0 x7_1).f1) x11_4).f0).length : Int)
                        ·rw [if_pos c31] at H
                         have c31b0 : decide (x13_5 < (((rd_T43 ((rd_T25 l0 x7_1).f1) x11_4).f0).length : Int)) = true := decide_eq_true c31
                         clear c31
                         by_cases c32 : 0 ≤ x13_5
                         ·rw [if_pos c32] at H
                          have c32b0 : decide (0 ≤ x13_5) = true := decide_eq_true c32
                          clear c32
                          by_cases c33 : x354000_5.length < 8796093022208
                          ·rw [if_pos c33] at H
                           have LMc33 := Aside0.mk c33
                           clear c33
                           obtain ⟨y360, hy360⟩ : ∃ y_ : List (S45), y_ = (x354000_5 ++ [(⟨wrap64 (((rd_T45 ((rd_T43 ((rd_T25 l0 x7_1).f1) x11_4).f0) x13_5).f0) + (x333000_1.length : Int)), (rd_T45 ((rd_T43 ((rd_T25 l0 x7_1).f1) x11_4).f0) x13_5).f1⟩ : S45)]) := ⟨_, rfl⟩
                           replace H : (saturatelaw41_IlpLarge.l2 k5 l0 x4_1 x5_1 x6_17 x7_1 t337 t340 x11_4 (wrap64 (x13_5 + 1)) x333000_1 x333001_4 y360 ((rd_T43 ((rd_T25 l0 x7_1).f1) x11_4).f1)) = some r := by first | (rw [hy360]; with_reducible exact H) | (have H2_ := (Option.bind_some _ _).symm.trans H; rw [hy360]; with_reducible exact H2_) | (have H2_ := (Option.bind_some _ _).symm.trans H; with_reducible exact H2_) | with_reducible exact H | (rw [hy360]; exact H) | exact H
                           have Ny360 := Aside0.mk hy360
                           clear hy360
                           have H' := Aside0.mk H
                           clear H
                           have p354 : 0 ≤ (x7_1 : Int) := of_decide_eq_true (by first | (with_reducible assumption) | assumption)
                           have q354 : x7_1 < (l0.length : Int) := of_decide_eq_true (by first | (with_reducible assumption) | assumption)
                           obtain ⟨ad354, A354_0, c354_0, A354_1, c354_1, e354, hx354_0, hx354_1, hl354_0, hi354_0, hl354_1, hi354_1⟩ := at_T25 HR0.out x7_1 p354 q354
                           obtain rfl : ad333 = ad354 := (by injection e354)
                           replace hx354_0 := (HB.out.cell (World.block_lt_of_cell? w _ hx354_0)).trans hx354_0
                           replace hx354_1 := (HB.out.cell (World.block_lt_of_cell? w _ hx354_1)).trans hx354_1
                           have HR354_0 := Aside0.mk hi354_0
                           have HC354_0 := Aside0.mk hl354_0
                           clear hi354_0 hl354_0
                           have HR354_1 := Aside0.mk hi354_1
                           have HC354_1 := Aside0.mk hl354_1
                           clear hi354_1 hl354_1
                           replace p354 := eq_true p354
                           replace q354 := eq_true q354
                           have p355 : 0 ≤ (x11_4 : Int) := of_decide_eq_true (by first | (with_reducible assumption) | assumption)
                           have q355 : x11_4 < (((rd_T25 l0 x7_1).f1).length : Int) := of_decide_eq_true (by first | (with_reducible assumption) | assumption)
                           obtain ⟨ad355, A355_0, c355_0, e355, hx355_0, hx355_1, hl355_0, hi355_0⟩ := at_T43 HR354_1.out x11_4 p355 q355
                           cases e355
                           replace hx355_0 := (HB.out.cell (World.block_lt_of_cell? w _ hx355_0)).trans hx355_0
                           replace hx355_1 := (HB.out.cell (World.block_lt_of_cell? w _ hx355_1)).trans hx355_1
                           have HR355_0 := Aside0.mk hi355_0
                           have HC355_0 := Aside0.mk hl355_0
                           clear hi355_0 hl355_0
                           replace p355 := eq_true p355
                           replace q355 := eq_true q355
                           have p356 : 0 ≤ (x7_1 : Int) := of_decide_eq_true (by first | (with_reducible assumption) | assumption)
                           have q356 : x7_1 < (l0.length : Int) := of_decide_eq_true (by first | (with_reducible assumption) | assumption)
                           obtain ⟨ad356, A356_0, c356_0, A356_1, c356_1, e356, hx356_0, hx356_1, hl356_0, hi356_0, hl356_1, hi356_1⟩ := at_T25 HR0.out x7_1 p356 q356
                           obtain rfl : ad333 = ad356 := (by injection e356)
                           replace hx356_0 := (HB.out.cell (World.block_lt_of_cell? w _ hx356_0)).trans hx356_0
                           replace hx356_1 := (HB.out.cell (World.block_lt_of_cell? w _ hx356_1)).trans hx356_1
                           have HR356_0 := Aside0.mk hi356_0
                           have HC356_0 := Aside0.mk hl356_0
                           clear hi356_0 hl356_0
                           have HR356_1 := Aside0.mk hi356_1
                           have HC356_1 := Aside0.mk hl356_1
                           clear hi356_1 hl356_1
                           replace p356 := eq_true p356
                           replace q356 := eq_true q356
                           have ea_ := Option.some.inj (hx354_0.symm.trans hx356_0)
                           injection ea_ with ea_ en_ ec_
                           subst ea_
                           subst ec_
                           clear en_
                           have ea_ := Option.some.inj (hx354_1.symm.trans hx356_1)
                           injection ea_ with ea_ en_ ec_
                           subst ea_
                           subst ec_
                           clear en_
                           have p357 : 0 ≤ (x11_4 : Int) := of_decide_eq_true (by first | (with_reducible assumption) | assumption)
                           have q357 : x11_4 < (((rd_T25 l0 x7_1).f1).length : Int) := of_decide_eq_true (by first | (with_reducible assumption) | assumption)
                           obtain ⟨ad357, A357_0, c357_0, e357, hx357_0, hx357_1, hl357_0, hi357_0⟩ := at_T43 HR356_1.out x11_4 p357 q357
                           cases e357
                           replace hx357_0 := (HB.out.cell (World.block_lt_of_cell? w _ hx357_0)).trans hx357_0
                           replace hx357_1 := (HB.out.cell (World.block_lt_of_cell? w _ hx357_1)).trans hx357_1
                           have HR357_0 := Aside0.mk hi357_0
                           have HC357_0 := Aside0.mk hl357_0
                           clear hi357_0 hl357_0
                           replace p357 := eq_true p357
                           replace q357 := eq_true q357
                           have ea_ := Option.some.inj (hx355_0.symm.trans hx357_0)
                           injection ea_ with ea_ en_ ec_
                           subst ea_
                           subst ec_
                           clear en_
                           have p358 : 0 ≤ (x13_5 : Int) := of_decide_eq_true (by first | (with_reducible assumption) | assumption)
                           have q358 : x13_5 < (((rd_T43 ((rd_T25 l0 x7_1).f1) x11_4).f0).length : Int) := of_decide_eq_true (by first | (with_reducible assumption) | assumption)
                           obtain ⟨ad358, e358, hx358_0, hx358_1⟩ := at_T45 HR357_0.out x13_5 p358 q358
                           cases e358
                           replace hx358_0 := (HB.out.cell (World.block_lt_of_cell? w _ hx358_0)).trans hx358_0
                           replace hx358_1 := (HB.out.cell (World.block_lt_of_cell? w _ hx358_1)).trans hx358_1
                           replace p358 := eq_true p358
                           replace q358 := eq_true q358
                           go_wp2_with (first | ((with_reducible refine gate_dst (N := 14) rfl ?_); (try (refine gate_guard (by rfl) ?_; dsimp only)); refine box_event ?hg (N := 14) ?hd (cs := #[.int .i64 0, .int .i64 0]) (t := 45) ?hr ?_; (case hd => rfl); (case hg => rfl); (case hr => first | (go_simp; done) | (go_simp; rfl)); intro gb359 hg w34 hbox hb; have n0_ := Aside0.mk (Kd.R_below (by (with_reducible repeat (first | apply Kd.R_alloc | apply Kd.R_drewN | apply Kd.R_drew)); exact HO_4.out) hb); have n1_ := Aside0.mk (Kd.R_below (by (with_reducible repeat (first | apply Kd.R_alloc | apply Kd.R_drewN | apply Kd.R_drew)); exact HO_8.out) hb); have n2_ := Aside0.mk (Kd.R_below (by (with_reducible repeat (first | apply Kd.R_alloc | apply Kd.R_drewN | apply Kd.R_drew)); exact HO_333000.out) hb); have n3_ := Aside0.mk (Kd.S_below (Kd.S_elderB (by (with_reducible repeat (first | apply Kd.S_alloc | apply Kd.S_drewN | apply Kd.S_drew)); exact HO_333001.out) gb359 (Nat.le_of_eq hg.symm)) hb); have n4_ := Aside0.mk (Kd.R_below (Kd.R_elderB (by (with_reducible repeat (first | apply Kd.R_alloc | apply Kd.R_drewN | apply Kd.R_drew)); exact HO_354000.out) gb359 (Nat.le_of_eq hg.symm)) hb); have n5_ := Aside0.mk (blk_below (g := gb332) (o := .cells #[u333000, u333001] 25 (0, 0)) (by (with_reducible repeat (first | refine blk_drewN ?_ _ | refine blk_drew ?_ | refine blk_alloc ?_ _)); exact BK332.out) hb); have n6_ := Aside0.mk (blk_below (g := gb353) (o := .cells #[u354000, .int .i64 ((rd_T43 ((rd_T25 l0 x7_1).f1) x11_4).f1)] 43 (0, 0)) (by (with_reducible repeat (first | refine blk_drewN ?_ _ | refine blk_drew ?_ | refine blk_alloc ?_ _)); exact BK353.out) hb); have n7_ := Aside0.mk (below_step (by repeat (first | (with_reducible first | exact HB.out | apply below_alloc | apply pw_below_drewN | apply below_drew1 | refine below_set ?_ GE332.out | refine below_set ?_ GE353.out) | exact HB.out)) hb); have n8_ := Aside0.mk (hbox); have n9_ := Aside0.mk ((by rw [hg]; exact (below_size (by repeat (first | (with_reducible first | exact HB.out | apply below_alloc | apply pw_below_drewN | apply below_drew1 | refine below_set ?_ GE332.out | refine below_set ?_ GE353.out) | exact HB.out))) : w.heap.size ≤ gb359)); have n10_ := Aside0.mk ((by rw [hg]; exact (below_size (by repeat (first | (with_reducible first | exact HB.out | apply below_alloc | apply pw_below_drewN | apply below_drew1 | refine below_set ?_ GE332.out | refine below_set ?_ GE353.out) | exact HB.out))) : w.heap.size ≤ gb359)); have n11_ := Aside0.mk ((by rw [hg]; exact Nat.ne_of_lt (blk_lt (g := gb332) (o := .cells #[u333000, u333001] 25 (0, 0)) (by (with_reducible repeat (first | refine blk_drewN ?_ _ | refine blk_drew ?_ | refine blk_alloc ?_ _)); exact BK332.out)) : gb332 ≠ gb359)); have n12_ := Aside0.mk ((by rw [hg]; exact Nat.ne_of_gt (blk_lt (g := gb332) (o := .cells #[u333000, u333001] 25 (0, 0)) (by (with_reducible repeat (first | refine blk_drewN ?_ _ | refine blk_drew ?_ | refine blk_alloc ?_ _)); exact BK332.out)) : gb359 ≠ gb332)); have n13_ := Aside0.mk ((by rw [hg]; exact Nat.ne_of_lt (blk_lt (g := gb353) (o := .cells #[u354000, .int .i64 ((rd_T43 ((rd_T25 l0 x7_1).f1) x11_4).f1)] 43 (0, 0)) (by (with_reducible repeat (first | refine blk_drewN ?_ _ | refine blk_drew ?_ | refine blk_alloc ?_ _)); exact BK353.out)) : gb353 ≠ gb359)); have n14_ := Aside0.mk ((by rw [hg]; exact Nat.ne_of_gt (blk_lt (g := gb353) (o := .cells #[u354000, .int .i64 ((rd_T43 ((rd_T25 l0 x7_1).f1) x11_4).f1)] 43 (0, 0)) (by (with_reducible repeat (first | refine blk_drewN ?_ _ | refine blk_drew ?_ | refine blk_alloc ?_ _)); exact BK353.out)) : gb359 ≠ gb353)); clear HO_4; clear HO_8; clear HO_333000; clear HO_333001; clear HO_354000; clear BK332; clear BK353; clear HB; have HO_4 := n0_; have HO_8 := n1_; have HO_333000 := n2_; have HO_333001 := n3_; have HO_354000 := n4_; have BK332 := n5_; have BK353 := n6_; have HB := n7_; have BK359 := n8_; have GW359 := n9_; have GE359 := n10_; have NB332_359 := n11_; have NB359_332 := n12_; have NB353_359 := n13_; have NB359_353 := n14_; clear n0_ n1_ n2_ n3_ n4_ n5_ n6_ n7_ n8_ n9_ n10_ n11_ n12_ n13_ n14_; clear hb hbox hg; have hnb35 := NB359_332.out; have hnc35 := NB332_359.out; have hnb36 := NB359_353.out; have hnc36 := NB353_359.out; have hcz37_0 : w34.cell? ⟨gb359, 0, none⟩ = some (.int .i64 0) := (blk_cell BK359.out 0).trans rfl; have hcz37_1 : w34.cell? ⟨gb359, 1, none⟩ = some (.int .i64 0) := (blk_cell BK359.out 1).trans rfl; have hfz37_0 := blk_frozen BK359.out 0; have hfz37_1 := blk_frozen BK359.out 1; have hnb38 := NB353_332.out; have hnc38 := NB332_353.out; have hcz39_0 : w34.cell? ⟨gb353, 0, none⟩ = some (u354000) := (blk_cell BK353.out 0).trans rfl; have hcz39_1 : w34.cell? ⟨gb353, 1, none⟩ = some (.int .i64 ((rd_T43 ((rd_T25 l0 x7_1).f1) x11_4).f1)) := (blk_cell BK353.out 1).trans rfl; have hfz39_0 := blk_frozen BK353.out 0; have hfz39_1 := blk_frozen BK353.out 1; have hcz40_0 : w34.cell? ⟨gb332, 0, none⟩ = some (u333000) := (blk_cell BK332.out 0).trans rfl; have hcz40_1 : w34.cell? ⟨gb332, 1, none⟩ = some (u333001) := (blk_cell BK332.out 1).trans rfl; have hfz40_0 := blk_frozen BK332.out 0; have hfz40_1 := blk_frozen BK332.out 1; obtain ⟨Ao41, co41, eo41⟩ := Kd.R_slice HO_333000.out; subst eo41) | ((with_reducible refine gate_builtin (b := .append) (xs := #[.tmp 103, .tmp 113]) rfl ?_); (try (refine gate_guard (by rfl) ?_; dsimp only)); at_builtin; refine Kd.R_append k45 (w0 := w) w.heap.size rfl (.tmp 103) (.tmp 113) 41 45 (.agg #[(.int .i64 0), (.int .i64 0)]) 16 rfl Try.underlying41 info45 rfl (by decide) (by omega) u354000 x354000_5 (⟨wrap64 (((rd_T45 ((rd_T43 ((rd_T25 l0 x7_1).f1) x11_4).f0) x13_5).f0) + (x333000_1.length : Int)), (rd_T45 ((rd_T43 ((rd_T25 l0 x7_1).f1) x11_4).f0) x13_5).f1⟩ : S45) [.int .i64 (wrap64 (((rd_T45 ((rd_T43 ((rd_T25 l0 x7_1).f1) x11_4).f0) x13_5).f0) + (x333000_1.length : Int))), .int .i64 ((rd_T45 ((rd_T43 ((rd_T25 l0 x7_1).f1) x11_4).f0) x13_5).f1)] (fun k_ => k_ ≠ gb359) (fun _ => False) rfl (by first | (go_simp; done) | (go_simp; rfl)) ?aP (fun _ hk => hk.elim) ?aF ?aO ?aB ?aS ?aL ?_; (case aP => exact k45_mkM _ _ _ (⟨wrap64 (((rd_T45 ((rd_T43 ((rd_T25 l0 x7_1).f1) x11_4).f0) x13_5).f0) + (x333000_1.length : Int)), (rd_T45 ((rd_T43 ((rd_T25 l0 x7_1).f1) x11_4).f0) x13_5).f1⟩ : S45)); (case aB => exact (by repeat (first | (with_reducible first | exact HB.out | apply below_alloc | apply pw_below_drewN | apply below_drew1 | refine below_set ?_ GE332.out | refine below_set ?_ GE353.out | refine below_set ?_ GE359.out) | exact HB.out))); (case aF => exact (fun k_ hk => Kd.freshB (g := gb359) (o := .cells #[.int .i64 ((rd_T45 ((rd_T43 ((rd_T25 l0 x7_1).f1) x11_4).f0) x13_5).f0), .int .i64 ((rd_T45 ((rd_T43 ((rd_T25 l0 x7_1).f1) x11_4).f0) x13_5).f1)] 45 (0, 0)) (by (with_reducible repeat (first | refine blk_drewN ?_ _ | refine blk_drew ?_ | refine blk_alloc ?_ _)); refine blk_put (cs := #[.int .i64 ((rd_T45 ((rd_T43 ((rd_T25 l0 x7_1).f1) x11_4).f0) x13_5).f0), .int .i64 0]) ?_ 1 _ rfl; (with_reducible repeat (first | refine blk_drewN ?_ _ | refine blk_drew ?_ | refine blk_alloc ?_ _)); refine blk_put (cs := #[.int .i64 0, .int .i64 0]) ?_ 0 _ rfl; (with_reducible repeat (first | refine blk_drewN ?_ _ | refine blk_drew ?_ | refine blk_alloc ?_ _)); exact BK359.out) k_ hk)); (case aO => exact (by (with_reducible repeat (first | apply Kd.R_alloc | apply Kd.R_drewN | apply Kd.R_drew)); exact Kd.R_mono (Kd.R_far (p := ⟨gb359, 1, none⟩) (Kd.R_far (p := ⟨gb359, 0, none⟩) (Kd.R_mono HO_354000.out (fun k_ hk => (⟨hk, hk.2⟩ : _ ∧ k_ ≠ gb359))) (fun _ hk => hk.2) (.int .i64 ((rd_T45 ((rd_T43 ((rd_T25 l0 x7_1).f1) x11_4).f0) x13_5).f0))) (fun _ hk => hk.2) (.int .i64 ((rd_T45 ((rd_T43 ((rd_T25 l0 x7_1).f1) x11_4).f0) x13_5).f1))) (fun _ hk => hk.1.2))); (case aS => exact (below_size (by repeat (first | (with_reducible first | exact HB.out | apply below_alloc | apply pw_below_drewN | apply below_drew1 | refine below_set ?_ GE332.out | refine below_set ?_ GE353.out | refine below_set ?_ GE359.out) | exact HB.out)))); (case aL => have := LMc33.out; omega); intro v361 w42 ho hb hg hat; rw [← Ny360.out] at ho; have n0_ := Aside0.mk (Kd.R_over' (by (with_reducible repeat (first | apply Kd.R_alloc | apply Kd.R_drewN | apply Kd.R_drew)); exact (Kd.R_mono (Kd.R_far (p := ⟨gb359, 1, none⟩) (Kd.R_far (p := ⟨gb359, 0, none⟩) (Kd.R_types HO_4.out BK359.out (by decide)) (fun _ hk => hk.2) (.int .i64 ((rd_T45 ((rd_T43 ((rd_T25 l0 x7_1).f1) x11_4).f0) x13_5).f0))) (fun _ hk => hk.2) (.int .i64 ((rd_T45 ((rd_T43 ((rd_T25 l0 x7_1).f1) x11_4).f0) x13_5).f1))) (fun _ h_ => h_.1))) (Kd.R_typed (by (with_reducible repeat (first | apply Kd.R_alloc | apply Kd.R_drewN | apply Kd.R_drew)); exact (Kd.R_mono (Kd.R_far (p := ⟨gb359, 1, none⟩) (Kd.R_far (p := ⟨gb359, 0, none⟩) (Kd.R_mono HO_354000.out (fun k_ hk => (⟨hk, hk.2⟩ : _ ∧ k_ ≠ gb359))) (fun _ hk => hk.2) (.int .i64 ((rd_T45 ((rd_T43 ((rd_T25 l0 x7_1).f1) x11_4).f0) x13_5).f0))) (fun _ hk => hk.2) (.int .i64 ((rd_T45 ((rd_T43 ((rd_T25 l0 x7_1).f1) x11_4).f0) x13_5).f1))) (fun _ h_ => h_.1)))) (by decide) hg); have n1_ := Aside0.mk (Kd.R_over' (by (with_reducible repeat (first | apply Kd.R_alloc | apply Kd.R_drewN | apply Kd.R_drew)); exact (Kd.R_mono (Kd.R_far (p := ⟨gb359, 1, none⟩) (Kd.R_far (p := ⟨gb359, 0, none⟩) (Kd.R_types HO_8.out BK359.out (by decide)) (fun _ hk => hk.2) (.int .i64 ((rd_T45 ((rd_T43 ((rd_T25 l0 x7_1).f1) x11_4).f0) x13_5).f0))) (fun _ hk => hk.2) (.int .i64 ((rd_T45 ((rd_T43 ((rd_T25 l0 x7_1).f1) x11_4).f0) x13_5).f1))) (fun _ h_ => h_.1))) (Kd.R_typed (by (with_reducible repeat (first | apply Kd.R_alloc | apply Kd.R_drewN | apply Kd.R_drew)); exact (Kd.R_mono (Kd.R_far (p := ⟨gb359, 1, none⟩) (Kd.R_far (p := ⟨gb359, 0, none⟩) (Kd.R_mono HO_354000.out (fun k_ hk => (⟨hk, hk.2⟩ : _ ∧ k_ ≠ gb359))) (fun _ hk => hk.2) (.int .i64 ((rd_T45 ((rd_T43 ((rd_T25 l0 x7_1).f1) x11_4).f0) x13_5).f0))) (fun _ hk => hk.2) (.int .i64 ((rd_T45 ((rd_T43 ((rd_T25 l0 x7_1).f1) x11_4).f0) x13_5).f1))) (fun _ h_ => h_.1)))) (by decide) hg); have n2_ := Aside0.mk (Kd.R_over' (by (with_reducible repeat (first | apply Kd.R_alloc | apply Kd.R_drewN | apply Kd.R_drew)); exact (Kd.R_mono (Kd.R_far (p := ⟨gb359, 1, none⟩) (Kd.R_far (p := ⟨gb359, 0, none⟩) (Kd.R_types HO_333000.out BK359.out (by decide)) (fun _ hk => hk.2) (.int .i64 ((rd_T45 ((rd_T43 ((rd_T25 l0 x7_1).f1) x11_4).f0) x13_5).f0))) (fun _ hk => hk.2) (.int .i64 ((rd_T45 ((rd_T43 ((rd_T25 l0 x7_1).f1) x11_4).f0) x13_5).f1))) (fun _ h_ => h_.1))) (Kd.R_typed (by (with_reducible repeat (first | apply Kd.R_alloc | apply Kd.R_drewN | apply Kd.R_drew)); exact (Kd.R_mono (Kd.R_far (p := ⟨gb359, 1, none⟩) (Kd.R_far (p := ⟨gb359, 0, none⟩) (Kd.R_mono HO_354000.out (fun k_ hk => (⟨hk, hk.2⟩ : _ ∧ k_ ≠ gb359))) (fun _ hk => hk.2) (.int .i64 ((rd_T45 ((rd_T43 ((rd_T25 l0 x7_1).f1) x11_4).f0) x13_5).f0))) (fun _ hk => hk.2) (.int .i64 ((rd_T45 ((rd_T43 ((rd_T25 l0 x7_1).f1) x11_4).f0) x13_5).f1))) (fun _ h_ => h_.1)))) (by decide) hg); have n3_ := Aside0.mk (Kd.S_after (ok := (fun k_ => k_ ≠ gb353 ∧ k_ ≠ gb359)) (by (with_reducible repeat (first | apply Kd.S_alloc | apply Kd.S_drewN | apply Kd.S_drew)); exact Kd.S_mono (Kd.S_far (p := ⟨gb359, 1, none⟩) (Kd.S_far (p := ⟨gb359, 0, none⟩) (Kd.S_mono HO_333001.out (fun k_ hk => (⟨hk, hk.2⟩ : _ ∧ k_ ≠ gb359))) (fun _ hk => hk.2) (.int .i64 ((rd_T45 ((rd_T43 ((rd_T25 l0 x7_1).f1) x11_4).f0) x13_5).f0))) (fun _ hk => hk.2) (.int .i64 ((rd_T45 ((rd_T43 ((rd_T25 l0 x7_1).f1) x11_4).f0) x13_5).f1))) (fun _ hk => ⟨⟨hk.1.1.2, hk.1.2⟩, hk.1.1.1⟩)) hg hat); have n4_ := Aside0.mk (blk_grown (g := gb332) (o := .cells #[.slice Ao41 x333000_1.length co41, u333001] 25 (0, 0)) (by (with_reducible repeat (first | refine blk_drewN ?_ _ | refine blk_drew ?_ | refine blk_alloc ?_ _)); refine blk_far ?_ NB332_359.out _; (with_reducible repeat (first | refine blk_drewN ?_ _ | refine blk_drew ?_ | refine blk_alloc ?_ _)); refine blk_far ?_ NB332_359.out _; (with_reducible repeat (first | refine blk_drewN ?_ _ | refine blk_drew ?_ | refine blk_alloc ?_ _)); exact BK332.out) hg (Kd.R_ne HO_354000.out BK332.out (by decide))); have n5_ := Aside0.mk (blk_grown (g := gb353) (o := .cells #[u354000, .int .i64 ((rd_T43 ((rd_T25 l0 x7_1).f1) x11_4).f1)] 43 (0, 0)) (by (with_reducible repeat (first | refine blk_drewN ?_ _ | refine blk_drew ?_ | refine blk_alloc ?_ _)); refine blk_far ?_ NB353_359.out _; (with_reducible repeat (first | refine blk_drewN ?_ _ | refine blk_drew ?_ | refine blk_alloc ?_ _)); refine blk_far ?_ NB353_359.out _; (with_reducible repeat (first | refine blk_drewN ?_ _ | refine blk_drew ?_ | refine blk_alloc ?_ _)); exact BK353.out) hg (Kd.R_ne HO_354000.out BK353.out (by decide))); have n6_ := Aside0.mk (blk_grown (g := gb359) (o := .cells #[.int .i64 ((rd_T45 ((rd_T43 ((rd_T25 l0 x7_1).f1) x11_4).f0) x13_5).f0), .int .i64 ((rd_T45 ((rd_T43 ((rd_T25 l0 x7_1).f1) x11_4).f0) x13_5).f1)] 45 (0, 0)) (by (with_reducible repeat (first | refine blk_drewN ?_ _ | refine blk_drew ?_ | refine blk_alloc ?_ _)); refine blk_put (cs := #[.int .i64 ((rd_T45 ((rd_T43 ((rd_T25 l0 x7_1).f1) x11_4).f0) x13_5).f0), .int .i64 0]) ?_ 1 _ rfl; (with_reducible repeat (first | refine blk_drewN ?_ _ | refine blk_drew ?_ | refine blk_alloc ?_ _)); refine blk_put (cs := #[.int .i64 0, .int .i64 0]) ?_ 0 _ rfl; (with_reducible repeat (first | refine blk_drewN ?_ _ | refine blk_drew ?_ | refine blk_alloc ?_ _)); exact BK359.out) hg (Kd.R_away HO_354000.out (fun _ hk => hk.2))); have n7_ := Aside0.mk (hb); have n8_ := Aside0.mk (ho); clear HO_4; clear HO_8; clear HO_333000; clear HO_333001; clear BK332; clear BK353; clear BK359; clear HB; clear HO_354000; have HO_4 := n0_; have HO_8 := n1_; have HO_333000 := n2_; have HO_333001 := n3_; have BK332 := n4_; have BK353 := n5_; have BK359 := n6_; have HB := n7_; have HO362 := n8_; clear n0_ n1_ n2_ n3_ n4_ n5_ n6_ n7_ n8_; clear ho hb hg hat; obtain ⟨Ao43, co43, eo43⟩ := Kd.R_slice HO362.out; subst eo43; have hcz44_0 : w42.cell? ⟨gb353, 0, none⟩ = some (u354000) := (blk_cell BK353.out 0).trans rfl; have hcz44_1 : w42.cell? ⟨gb353, 1, none⟩ = some (.int .i64 ((rd_T43 ((rd_T25 l0 x7_1).f1) x11_4).f1)) := (blk_cell BK353.out 1).trans rfl; have hfz44_0 := blk_frozen BK353.out 0; have hfz44_1 := blk_frozen BK353.out 1))
                           go_roundg k5
                           case measure => have := HK1.out; have := HJ10.out; have := HJ17.out; have := HK4.out; have := HK5.out; omega
                           case rel => exact ⟨(wrap64 (x13_5 + 1)), (y360), (.slice Ao43 y360.length co43), (by first | rfl | (simp; done) | (simp [*]; done)), H', ⟨by have := HK1.out; have := HJ10.out; have := HJ17.out; have := HK4.out; have := HK5.out; omega⟩, ⟨by (with_reducible repeat (first | apply Kd.R_alloc | apply Kd.R_drewN | apply Kd.R_drew)); exact Kd.R_mono (Kd.R_far (p := ⟨gb353, 0, none⟩) (Kd.R_types HO_4.out BK353.out (by decide)) (fun _ hk => hk.2) (.slice Ao43 y360.length co43)) (fun _ hk => hk.1)⟩, ⟨by (with_reducible repeat (first | apply Kd.R_alloc | apply Kd.R_drewN | apply Kd.R_drew)); exact Kd.R_mono (Kd.R_far (p := ⟨gb353, 0, none⟩) (Kd.R_types HO_8.out BK353.out (by decide)) (fun _ hk => hk.2) (.slice Ao43 y360.length co43)) (fun _ hk => hk.1)⟩, ⟨by (with_reducible repeat (first | apply Kd.R_alloc | apply Kd.R_drewN | apply Kd.R_drew)); exact Kd.R_mono (Kd.R_far (p := ⟨gb353, 0, none⟩) (Kd.R_types HO_333000.out BK353.out (by decide)) (fun _ hk => hk.2) (.slice Ao43 y360.length co43)) (fun _ hk => trivial)⟩, ⟨by (with_reducible repeat (first | apply Kd.S_alloc | apply Kd.S_drewN | apply Kd.S_drew)); exact Kd.S_mono (Kd.S_far (p := ⟨gb353, 0, none⟩) (Kd.S_mono HO_333001.out (fun k_ hk => (⟨hk, hk.1.1⟩ : _ ∧ k_ ≠ gb353))) (fun _ hk => hk.2) (.slice Ao43 y360.length co43)) (fun _ hk => ⟨hk.1.2, hk.1.1.1⟩)⟩, ⟨by (with_reducible repeat (first | apply Kd.R_alloc | apply Kd.R_drewN | apply Kd.R_drew)); exact Kd.R_mono (Kd.R_far (p := ⟨gb353, 0, none⟩) (Kd.R_types HO362.out BK353.out (by decide)) (fun _ hk => hk.2) (.slice Ao43 y360.length co43)) (fun _ hk => trivial)⟩, ⟨by (with_reducible repeat (first | refine blk_drewN ?_ _ | refine blk_drew ?_ | refine blk_alloc ?_ _)); refine blk_far ?_ NB332_353.out _; (with_reducible repeat (first | refine blk_drewN ?_ _ | refine blk_drew ?_ | refine blk_alloc ?_ _)); exact BK332.out⟩, ⟨by (with_reducible repeat (first | refine blk_drewN ?_ _ | refine blk_drew ?_ | refine blk_alloc ?_ _)); refine blk_put (cs := #[u354000, .int .i64 ((rd_T43 ((rd_T25 l0 x7_1).f1) x11_4).f1)]) ?_ 0 _ rfl; (with_reducible repeat (first | refine blk_drewN ?_ _ | refine blk_drew ?_ | refine blk_alloc ?_ _)); exact BK353.out⟩, ⟨by repeat (first | (with_reducible first | exact HB.out | apply below_alloc | apply pw_below_drewN | apply below_drew1 | refine below_set ?_ GE332.out | refine below_set ?_ GE353.out | refine below_set ?_ GE359.out) | exact HB.out)⟩⟩
                          ·rw [if_neg c33] at H
                           exact absurd H (by simp)
                         ·rw [if_neg c32] at H
                          exact absurd H (by simp)
                        ·rw [if_neg c31] at H
                         have c31b0 : decide (x13_5 < (((rd_T43 ((rd_T25 l0 x7_1).f1) x11_4).f0).length : Int)) = false := decide_eq_false c31
                         clear c31
                         by_cases c45 : x333001_4.length < 4398046511104
                         ·rw [if_pos c45] at H
                          have LMc45 := Aside0.mk c45
                          clear c45
                          obtain ⟨y363, hy363⟩ : ∃ y_ : List (S43), y_ = (x333001_4 ++ [(⟨x354000_5, ((rd_T43 ((rd_T25 l0 x7_1).f1) x11_4).f1)⟩ : S43)]) := ⟨_, rfl⟩
                          replace H : (saturatelaw41_IlpLarge.l1 k5 l0 x4_1 x5_1 x6_17 x7_1 t337 t340 (wrap64 (x11_4 + 1)) x333000_1 y363) = some r := by first | (rw [hy363]; with_reducible exact H) | (have H2_ := (Option.bind_some _ _).symm.trans H; rw [hy363]; with_reducible exact H2_) | (have H2_ := (Option.bind_some _ _).symm.trans H; with_reducible exact H2_) | with_reducible exact H | (rw [hy363]; exact H) | exact H
                          have Ny363 := Aside0.mk hy363
                          clear hy363
                          have H' := Aside0.mk H
                          clear H
                          have p354 : 0 ≤ (x7_1 : Int) := of_decide_eq_true (by first | (with_reducible assumption) | assumption)
                          have q354 : x7_1 < (l0.length : Int) := of_decide_eq_true (by first | (with_reducible assumption) | assumption)
                          obtain ⟨ad354, A354_0, c354_0, A354_1, c354_1, e354, hx354_0, hx354_1, hl354_0, hi354_0, hl354_1, hi354_1⟩ := at_T25 HR0.out x7_1 p354 q354
                          obtain rfl : ad333 = ad354 := (by injection e354)
                          replace hx354_0 := (HB.out.cell (World.block_lt_of_cell? w _ hx354_0)).trans hx354_0
                          replace hx354_1 := (HB.out.cell (World.block_lt_of_cell? w _ hx354_1)).trans hx354_1
                          have HR354_0 := Aside0.mk hi354_0
                          have HC354_0 := Aside0.mk hl354_0
                          clear hi354_0 hl354_0
                          have HR354_1 := Aside0.mk hi354_1
                          have HC354_1 := Aside0.mk hl354_1
                          clear hi354_1 hl354_1
                          replace p354 := eq_true p354
                          replace q354 := eq_true q354
                          have p355 : 0 ≤ (x11_4 : Int) := of_decide_eq_true (by first | (with_reducible assumption) | assumption)
                          have q355 : x11_4 < (((rd_T25 l0 x7_1).f1).length : Int) := of_decide_eq_true (by first | (with_reducible assumption) | assumption)
                          obtain ⟨ad355, A355_0, c355_0, e355, hx355_0, hx355_1, hl355_0, hi355_0⟩ := at_T43 HR354_1.out x11_4 p355 q355
                          cases e355
                          replace hx355_0 := (HB.out.cell (World.block_lt_of_cell? w _ hx355_0)).trans hx355_0
                          replace hx355_1 := (HB.out.cell (World.block_lt_of_cell? w _ hx355_1)).trans hx355_1
                          have HR355_0 := Aside0.mk hi355_0
                          have HC355_0 := Aside0.mk hl355_0
                          clear hi355_0 hl355_0
                          replace p355 := eq_true p355
                          replace q355 := eq_true q355
                          have hnb46 := NB332_353.out
                          have hnc46 := NB353_332.out
                          have hcz47_0 : wr.cell? ⟨gb332, 0, none⟩ = some (u333000) := (blk_cell BK332.out 0).trans rfl
                          have hcz47_1 : wr.cell? ⟨gb332, 1, none⟩ = some (u333001) := (blk_cell BK332.out 1).trans rfl
                          have hfz47_0 := blk_frozen BK332.out 0
                          have hfz47_1 := blk_frozen BK332.out 1
                          have hcz48_0 : wr.cell? ⟨gb353, 0, none⟩ = some (u354000) := (blk_cell BK353.out 0).trans rfl
                          have hcz48_1 : wr.cell? ⟨gb353, 1, none⟩ = some (.int .i64 ((rd_T43 ((rd_T25 l0 x7_1).f1) x11_4).f1)) := (blk_cell BK353.out 1).trans rfl
                          have hfz48_0 := blk_frozen BK353.out 0
                          have hfz48_1 := blk_frozen BK353.out 1
                          obtain ⟨Ao50, co50, eo50⟩ := Kd.R_slice HO_354000.out
                          subst eo50
                          go_wp2_with (first | ((with_reducible refine gate_builtin (b := .append) (xs := #[.tmp 117, .tmp 119]) rfl ?_); (try (refine gate_guard (by rfl) ?_; dsimp only)); at_builtin; refine Kd.S_append k43 (w0 := w) w.heap.size rfl (.tmp 117) (.tmp 119) 23 43 (.agg #[(.slice none 0 0), (.int .i64 0)]) 32 rfl Try.underlying23 info43 rfl (by decide) (by omega) u333001 x333001_4 (⟨x354000_5, ((rd_T43 ((rd_T25 l0 x7_1).f1) x11_4).f1)⟩ : S43) [.slice Ao50 x354000_5.length co50, .int .i64 ((rd_T43 ((rd_T25 l0 x7_1).f1) x11_4).f1)] (fun k_ => k_ ≠ gb353) (fun k_ => some k_ = (.slice Ao50 x354000_5.length co50 : Value).ownBlock) rfl rfl ?aP (fun k_ hk_ => ((Kd.R_mono (ok' := fun k_ => ((fun k_ => k_ ≠ gb353)) k_ ∧ some k_ ≠ (u333001 : Value).ownBlock) (Kd.R_types (Kd.R_apart' (HO_354000.out) (Kd.S_typed HO_333001.out) (by decide)) BK353.out (by decide)) (fun k_ hk => ⟨hk.2, hk.1.2⟩))).1 k_ hk_.symm) ?aF ?aO ?aB ?aS ?aL ?_; (case aP => exact k43_mkM _ _ _ (⟨x354000_5, ((rd_T43 ((rd_T25 l0 x7_1).f1) x11_4).f1)⟩ : S43) (Kd.R_mono (Kd.R_tight rfl (Kd.R_mono (ok' := fun k_ => ((fun k_ => k_ ≠ gb353)) k_ ∧ some k_ ≠ (u333001 : Value).ownBlock) (Kd.R_types (Kd.R_apart' (HO_354000.out) (Kd.S_typed HO_333001.out) (by decide)) BK353.out (by decide)) (fun k_ hk => ⟨hk.2, hk.1.2⟩))) (fun _ h_ => h_))); (case aB => exact (by repeat (first | (with_reducible first | exact HB.out | apply below_alloc | apply pw_below_drewN | apply below_drew1 | refine below_set ?_ GE332.out | refine below_set ?_ GE353.out) | exact HB.out))); (case aF => exact (fun k_ hk => Kd.freshB (g := gb353) (o := .cells #[.slice Ao50 x354000_5.length co50, .int .i64 ((rd_T43 ((rd_T25 l0 x7_1).f1) x11_4).f1)] 43 (0, 0)) (by (with_reducible repeat (first | refine blk_drewN ?_ _ | refine blk_drew ?_ | refine blk_alloc ?_ _)); exact BK353.out) k_ hk)); (case aO => exact (by (with_reducible repeat (first | apply Kd.S_alloc | apply Kd.S_drewN | apply Kd.S_drew)); exact Kd.S_mono HO_333001.out (fun k_ hk => ⟨hk.2, fun e_ => hk.1 e_⟩))); (case aS => exact (below_size (by repeat (first | (with_reducible first | exact HB.out | apply below_alloc | apply pw_below_drewN | apply below_drew1 | refine below_set ?_ GE332.out | refine below_set ?_ GE353.out) | exact HB.out)))); (case aL => have := LMc45.out; omega); intro v364 w49 ho hb hg hat; rw [← Ny363.out] at ho; have n0_ := Aside0.mk (Kd.R_over' (by (with_reducible repeat (first | apply Kd.R_alloc | apply Kd.R_drewN | apply Kd.R_drew)); exact HO_4.out) (Kd.S_typed (by (with_reducible repeat (first | apply Kd.S_alloc | apply Kd.S_drewN | apply Kd.S_drew)); exact HO_333001.out)) (by decide) hg); have n1_ := Aside0.mk (Kd.R_over' (by (with_reducible repeat (first | apply Kd.R_alloc | apply Kd.R_drewN | apply Kd.R_drew)); exact HO_8.out) (Kd.S_typed (by (with_reducible repeat (first | apply Kd.S_alloc | apply Kd.S_drewN | apply Kd.S_drew)); exact HO_333001.out)) (by decide) hg); have n2_ := Aside0.mk (Kd.R_over' (by (with_reducible repeat (first | apply Kd.R_alloc | apply Kd.R_drewN | apply Kd.R_drew)); exact HO_333000.out) (Kd.S_typed (by (with_reducible repeat (first | apply Kd.S_alloc | apply Kd.S_drewN | apply Kd.S_drew)); exact HO_333001.out)) (by decide) hg); have n3_ := Aside0.mk (blk_grown (g := gb332) (o := .cells #[u333000, u333001] 25 (0, 0)) (by (with_reducible repeat (first | refine blk_drewN ?_ _ | refine blk_drew ?_ | refine blk_alloc ?_ _)); exact BK332.out) hg (Kd.S_ne HO_333001.out BK332.out (by decide))); have n4_ := Aside0.mk (blk_grown (g := gb353) (o := .cells #[.slice Ao50 x354000_5.length co50, .int .i64 ((rd_T43 ((rd_T25 l0 x7_1).f1) x11_4).f1)] 43 (0, 0)) (by (with_reducible repeat (first | refine blk_drewN ?_ _ | refine blk_drew ?_ | refine blk_alloc ?_ _)); exact BK353.out) hg (Kd.S_away HO_333001.out (fun _ hk => hk.2))); have n5_ := Aside0.mk (hb); have n6_ := Aside0.mk (ho); clear HO_4; clear HO_8; clear HO_333000; clear BK332; clear BK353; clear HB; clear HO_333001; clear HO_354000; have HO_4 := n0_; have HO_8 := n1_; have HO_333000 := n2_; have BK332 := n3_; have BK353 := n4_; have HB := n5_; have HO365 := n6_; clear n0_ n1_ n2_ n3_ n4_ n5_ n6_; clear ho hb hg hat; obtain ⟨Ao51, co51, eo51⟩ := Kd.S_slice HO365.out; subst eo51; have hcz52_0 : w49.cell? ⟨gb332, 0, none⟩ = some (u333000) := (blk_cell BK332.out 0).trans rfl; have hcz52_1 : w49.cell? ⟨gb332, 1, none⟩ = some (u333001) := (blk_cell BK332.out 1).trans rfl; have hfz52_0 := blk_frozen BK332.out 0; have hfz52_1 := blk_frozen BK332.out 1))
                          go_roundg k5
                          case measure => have := HK1.out; have := HJ10.out; have := HJ17.out; have := HK4.out; have := HK5.out; omega
                          case rel => exact ⟨(wrap64 (x11_4 + 1)), (y363), (.slice Ao51 y363.length co51), (by first | rfl | (simp; done) | (simp [*]; done)), H', ⟨by have := HK1.out; have := HJ10.out; have := HJ17.out; have := HK4.out; have := HK5.out; omega⟩, ⟨by (with_reducible repeat (first | apply Kd.R_alloc | apply Kd.R_drewN | apply Kd.R_drew)); exact Kd.R_mono (Kd.R_far (p := ⟨gb332, 1, none⟩) (Kd.R_types HO_4.out BK332.out (by decide)) (fun _ hk => hk.2) (.slice Ao51 y363.length co51)) (fun _ hk => hk.1)⟩, ⟨by (with_reducible repeat (first | apply Kd.R_alloc | apply Kd.R_drewN | apply Kd.R_drew)); exact Kd.R_mono (Kd.R_far (p := ⟨gb332, 1, none⟩) (Kd.R_types HO_8.out BK332.out (by decide)) (fun _ hk => hk.2) (.slice Ao51 y363.length co51)) (fun _ hk => hk.1)⟩, ⟨by (with_reducible repeat (first | apply Kd.R_alloc | apply Kd.R_drewN | apply Kd.R_drew)); exact Kd.R_mono (Kd.R_far (p := ⟨gb332, 1, none⟩) (Kd.R_types HO_333000.out BK332.out (by decide)) (fun _ hk => hk.2) (.slice Ao51 y363.length co51)) (fun _ hk => trivial)⟩, ⟨by (with_reducible repeat (first | apply Kd.S_alloc | apply Kd.S_drewN | apply Kd.S_drew)); exact Kd.S_mono (Kd.S_far (p := ⟨gb332, 1, none⟩) (Kd.S_types HO365.out BK332.out (by decide)) (fun _ hk => hk.2) (.slice Ao51 y363.length co51)) (fun _ hk => trivial)⟩, ⟨by (with_reducible repeat (first | refine blk_drewN ?_ _ | refine blk_drew ?_ | refine blk_alloc ?_ _)); refine blk_put (cs := #[u333000, u333001]) ?_ 1 _ rfl; (with_reducible repeat (first | refine blk_drewN ?_ _ | refine blk_drew ?_ | refine blk_alloc ?_ _)); exact BK332.out⟩, ⟨by repeat (first | (with_reducible first | exact HB.out | apply below_alloc | apply pw_below_drewN | apply below_drew1 | refine below_set ?_ GE332.out | refine below_set ?_ GE353.out) | exact HB.out)⟩⟩
                         ·rw [if_neg c45] at H
                          exact absurd H (by simp)
                       ·rw [if_neg c30] at H
                        exact absurd H (by simp)
                      ·rw [if_neg c29] at H
                       exact absurd H (by simp)
                     ·rw [if_neg c28] at H
                      exact absurd H (by simp)
                    ·rw [if_neg c27] at H
                     exact absurd H (by simp)
                 ·rw [if_neg c23] at H
                  exact absurd H (by simp)
                ·rw [if_neg c22] at H
                 have c22b0 : decide (x11_4 < (((rd_T25 l0 x7_1).f1).length : Int)) = false := decide_eq_false c22
                 clear c22
                 by_cases c53 : x333000_1.length + ((rd_T25 l0 x7_1).f0).length < 17592186044416
                 ·rw [if_pos c53] at H
                  have LMc53 := Aside0.mk c53
                  clear c53
                  obtain ⟨y345, hy345⟩ : ∃ y_ : List Int, y_ = (x333000_1 ++ ((rd_T25 l0 x7_1).f0)) := ⟨_, rfl⟩
                  replace H : (if x4_1.length + t337.length < 140737488355328 then (saturatelaw41_IlpLarge.l0 k4 l0 (x4_1 ++ t337) (wrap64 (x5_1 + t340)) x6_17 (wrap64 (x7_1 + 1)) y345 x333001_4) else (none)) = some r := by first | (rw [hy345]; with_reducible exact H) | (have H2_ := (Option.bind_some _ _).symm.trans H; rw [hy345]; with_reducible exact H2_) | (have H2_ := (Option.bind_some _ _).symm.trans H; with_reducible exact H2_) | with_reducible exact H | (rw [hy345]; exact H) | exact H
                  have Ny345 := Aside0.mk hy345
                  clear hy345
                  by_cases c54 : x4_1.length + t337.length < 140737488355328
                  ·rw [if_pos c54] at H
                   have LMc54 := Aside0.mk c54
                   clear c54
                   obtain ⟨y348, hy348⟩ : ∃ y_ : List Bool, y_ = (x4_1 ++ t337) := ⟨_, rfl⟩
                   replace H : (saturatelaw41_IlpLarge.l0 k4 l0 y348 (wrap64 (x5_1 + t340)) x6_17 (wrap64 (x7_1 + 1)) y345 x333001_4) = some r := by first | (rw [hy348]; with_reducible exact H) | (have H2_ := (Option.bind_some _ _).symm.trans H; rw [hy348]; with_reducible exact H2_) | (have H2_ := (Option.bind_some _ _).symm.trans H; with_reducible exact H2_) | with_reducible exact H | (rw [hy348]; exact H) | exact H
                   have Ny348 := Aside0.mk hy348
                   clear hy348
                   have H' := Aside0.mk H
                   clear H
                   have p343 : 0 ≤ (x7_1 : Int) := of_decide_eq_true (by first | (with_reducible assumption) | assumption)
                   have q343 : x7_1 < (l0.length : Int) := of_decide_eq_true (by first | (with_reducible assumption) | assumption)
                   obtain ⟨ad343, A343_0, c343_0, A343_1, c343_1, e343, hx343_0, hx343_1, hl343_0, hi343_0, hl343_1, hi343_1⟩ := at_T25 HR0.out x7_1 p343 q343
                   obtain rfl : ad333 = ad343 := (by injection e343)
                   replace hx343_0 := (HB.out.cell (World.block_lt_of_cell? w _ hx343_0)).trans hx343_0
                   replace hx343_1 := (HB.out.cell (World.block_lt_of_cell? w _ hx343_1)).trans hx343_1
                   have HR343_0 := Aside0.mk hi343_0
                   have HC343_0 := Aside0.mk hl343_0
                   clear hi343_0 hl343_0
                   have HR343_1 := Aside0.mk hi343_1
                   have HC343_1 := Aside0.mk hl343_1
                   clear hi343_1 hl343_1
                   replace p343 := eq_true p343
                   replace q343 := eq_true q343
                   try go_wp2
                   have n0_ := Aside0.mk (Kd.R_drew HO_4.out)
                   have n1_ := Aside0.mk (Kd.R_drew HO_8.out)
                   have n2_ := Aside0.mk (Kd.R_drew HO_333000.out)
                   have n3_ := Aside0.mk (Kd.S_drew HO_333001.out)
                   have n4_ := Aside0.mk (blk_drew BK332.out)
                   have n5_ := Aside0.mk (below_drew1 HB.out)
                   clear HO_4
                   clear HO_8
                   clear HO_333000
                   clear HO_333001
                   clear BK332
                   clear HB
                   have HO_4 := n0_
                   have HO_8 := n1_
                   have HO_333000 := n2_
                   have HO_333001 := n3_
                   have BK332 := n4_
                   have HB := n5_
                   clear n0_ n1_ n2_ n3_ n4_ n5_
                   have p344 : 0 ≤ (x7_1 : Int) := of_decide_eq_true (by first | (with_reducible assumption) | assumption)
                   have q344 : x7_1 < (l0.length : Int) := of_decide_eq_true (by first | (with_reducible assumption) | assumption)
                   obtain ⟨ad344, A344_0, c344_0, A344_1, c344_1, e344, hx344_0, hx344_1, hl344_0, hi344_0, hl344_1, hi344_1⟩ := at_T25 HR0.out x7_1 p344 q344
                   have hw344_1 := hx344_1
                   have hw344_0 := hx344_0
                   obtain rfl : ad333 = ad344 := (by injection e344)
                   replace hx344_0 := (HB.out.cell (World.block_lt_of_cell? w _ hx344_0)).trans hx344_0
                   replace hx344_1 := (HB.out.cell (World.block_lt_of_cell? w _ hx344_1)).trans hx344_1
                   have HR344_0 := Aside0.mk hi344_0
                   have HC344_0 := Aside0.mk hl344_0
                   clear hi344_0 hl344_0
                   have HR344_1 := Aside0.mk hi344_1
                   have HC344_1 := Aside0.mk hl344_1
                   clear hi344_1 hl344_1
                   replace p344 := eq_true p344
                   replace q344 := eq_true q344
                   refine start_ (n := 10) (S := fun w' => w'.cell? ⟨gb332, 0, none⟩ = some (u333000) ∧ w'.cell? ⟨gb332, 1, none⟩ = some (u333001) ∧ w'.cell? (ad333.add ((x7_1).toNat * 2)) = some (.slice A344_0 ((rd_T25 l0 x7_1).f0).length c344_0) ∧ w'.cell? ⟨(ad333.add ((x7_1).toNat * 2)).block, (ad333.add ((x7_1).toNat * 2)).off + 1, none⟩ = some (.slice A344_1 ((rd_T25 l0 x7_1).f1).length c344_1)) (ds := [9]) #[false, false, false, false, false, false, false, false, false, false] (by kernel_rfl) rfl rfl ⟨(blk_cell BK332.out 0).trans rfl, (blk_cell BK332.out 1).trans rfl, ((HB.out.cell (World.block_lt_of_cell? w _ hw344_0)).trans hw344_0), ((HB.out.cell (World.block_lt_of_cell? w _ hw344_1)).trans hw344_1)⟩ (fun hHeld => ?_); refine with_tabW saturatelaw41_IlpLarge.tab26 saturatelaw41_IlpLarge.bits26 (fun HT_ HW_ => ?_)
                   generalize wr.drew = w55 at HO_4 HO_8 HO_333000 HO_333001 BK332 HB HR344_0 HR344_1 hx344_0 hx344_1 hHeld ⊢
                   refine pure_ (i := 0) (N := some 122) (v := ?_) (a' := ?_) #[true, false, false, false, false, false, false, false, false, false] rfl rfl (any_of HT_.out (by kernel_rfl)) (fun _ _ _ h => h) (Or.inl ⟨by rfl, ?_⟩) ?_ ?_
                   rotate_left
                   ·intro w'
                    go_simp
                    with_reducible rfl
                   rotate_left
                   ·simp only [Act.put, List.setIfInBounds_toArray, List.set_cons_zero, List.set_cons_succ, i64_w, i32_w]
                    rfl
                   refine pure_ (i := 2) (N := some 124) (v := ?_) (a' := ?_) #[true, false, true, false, false, false, false, false, false, false] rfl rfl (any_of HT_.out (by kernel_rfl)) (fun _ _ _ h => h) (Or.inl ⟨by rfl, ?_⟩) ?_ ?_
                   rotate_left
                   ·intro w'
                    go_simp
                    with_reducible rfl
                   rotate_left
                   ·simp only [Act.put, List.setIfInBounds_toArray, List.set_cons_zero, List.set_cons_succ, i64_w, i32_w]
                    rfl
                   refine pure_ (i := 3) (N := some 125) (v := ?_) (a' := ?_) #[true, false, true, true, false, false, false, false, false, false] rfl rfl (any_of HT_.out (by kernel_rfl)) (fun _ _ _ h => h) (Or.inl ⟨by rfl, ?_⟩) ?_ ?_
                   rotate_left
                   ·intro w'
                    go_simp
                    with_reducible rfl
                   rotate_left
                   ·simp only [Act.put, List.setIfInBounds_toArray, List.set_cons_zero, List.set_cons_succ, i64_w, i32_w]
                    rfl
                   refine pure_ (i := 4) (N := some 126) (v := ?_) (a' := ?_) #[true, false, true, true, true, false, false, false, false, false] rfl rfl (any_of HT_.out (by kernel_rfl)) (fun _ _ _ h => h) (Or.inl ⟨by rfl, ?_⟩) ?_ ?_
                   rotate_left
                   ·intro w'
                    go_simp
                    with_reducible rfl
                   rotate_left
                   ·simp only [Act.put, List.setIfInBounds_toArray, List.set_cons_zero, List.set_cons_succ, i64_w, i32_w]
                    rfl
                   refine pure_ (i := 5) (N := some 127) (v := ?_) (a' := ?_) #[true, false, true, true, true, true, false, false, false, false] rfl rfl (any_of HT_.out (by kernel_rfl)) (fun _ _ _ h => h) (Or.inl ⟨by rfl, ?_⟩) ?_ ?_
                   rotate_left
                   ·intro w'
                    go_simp
                    with_reducible rfl
                   rotate_left
                   ·simp only [Act.put, List.setIfInBounds_toArray, List.set_cons_zero, List.set_cons_succ, i64_w, i32_w]
                    rfl
                   refine take_ (i := 1) (N := some 123) (v := ?_) (a' := ?_) #[true, true, true, true, true, true, false, false, false, false] rfl rfl (take_ofW HT_.out HW_.out (by kernel_rfl)) (fun _ _ _ h => h) (Or.inl ⟨by rfl, ?_⟩) hHeld ?_ ?_
                   rotate_left
                   ·rintro w' ⟨s0, s1, s2, s3⟩
                    go_simp
                    with_reducible rfl
                   rotate_left
                   ·simp only [Act.put, List.setIfInBounds_toArray, List.set_cons_zero, List.set_cons_succ, i64_w, i32_w]
                    rfl
                   refine take_ (i := 6) (N := some 128) (v := ?_) (a' := ?_) #[true, true, true, true, true, true, true, false, false, false] rfl rfl (take_ofW HT_.out HW_.out (by kernel_rfl)) (fun _ _ _ h => h) (Or.inl ⟨by rfl, ?_⟩) hHeld ?_ ?_
                   rotate_left
                   ·rintro w' ⟨s0, s1, s2, s3⟩
                    go_simp
                    with_reducible rfl
                   rotate_left
                   ·simp only [Act.put, List.setIfInBounds_toArray, List.set_cons_zero, List.set_cons_succ, i64_w, i32_w]
                    rfl
                   refine one_ (i := 7) (N := some 129) #[true, true, true, true, true, true, true, true, false, false] rfl rfl (one_of HT_.out (by kernel_rfl)) (by decide) (fun K hK => ?_)
                   refine Kd.R_append_rows_step (Kd.int .i64) (w0 := w) w.heap.size (by rfl) (.tmp 123) (.tmp 128) 22 2 (.int .i64 0) 8 rfl Try.underlying22 info2 rfl (by decide) (by omega) u333000 x333000_1 ((rd_T25 l0 x7_1).f0) _ _ _ (fun _ => True) (fun _ => False) rfl rfl ?aO ?aR (fun _ _ h => h) (fun _ h => h.elim) ?aF ?aB ?aS ?aL ?_
                   (case aR => repeat (first | exact (Kd.C_below HR344_0.out HB.out) | (with_reducible refine Kd.C_alloc ?_ _) | (with_reducible refine Kd.C_drewN ?_ _) | (with_reducible refine Kd.C_drew ?_)))
                   (case aB => exact (by repeat (first | (with_reducible first | exact HB.out | apply below_alloc | apply pw_below_drewN | apply below_drew1 | refine below_set ?_ GE332.out) | exact HB.out)))
                   (case aF => exact (fun _ _ => trivial))
                   (case aO => exact (by (with_reducible repeat (first | apply Kd.R_alloc | apply Kd.R_drewN | apply Kd.R_drew)); exact HO_333000.out))
                   (case aS => exact (below_size (by repeat (first | (with_reducible first | exact HB.out | apply below_alloc | apply pw_below_drewN | apply below_drew1 | refine below_set ?_ GE332.out) | exact HB.out))))
                   (case aL => have := LMc53.out; omega)
                   intro v346 w56 ho hb hg hat
                   rw [← Ny345.out] at ho
                   have n0_ := Aside0.mk (Kd.R_over' (by (with_reducible repeat (first | apply Kd.R_alloc | apply Kd.R_drewN | apply Kd.R_drew)); exact HO_4.out) (Kd.R_typed (by (with_reducible repeat (first | apply Kd.R_alloc | apply Kd.R_drewN | apply Kd.R_drew)); exact HO_333000.out)) (by decide) hg)
                   have n1_ := Aside0.mk (Kd.R_over' (by (with_reducible repeat (first | apply Kd.R_alloc | apply Kd.R_drewN | apply Kd.R_drew)); exact HO_8.out) (Kd.R_typed (by (with_reducible repeat (first | apply Kd.R_alloc | apply Kd.R_drewN | apply Kd.R_drew)); exact HO_333000.out)) (by decide) hg)
                   have n2_ := Aside0.mk (Kd.S_over' (by (with_reducible repeat (first | apply Kd.S_alloc | apply Kd.S_drewN | apply Kd.S_drew)); exact HO_333001.out) (Kd.R_typed (by (with_reducible repeat (first | apply Kd.R_alloc | apply Kd.R_drewN | apply Kd.R_drew)); exact HO_333000.out)) (by decide) hg)
                   have n3_ := Aside0.mk (blk_grown (g := gb332) (o := .cells #[u333000, u333001] 25 (0, 0)) (by (with_reducible repeat (first | refine blk_drewN ?_ _ | refine blk_drew ?_ | refine blk_alloc ?_ _)); exact BK332.out) hg (Kd.R_ne HO_333000.out BK332.out (by decide)))
                   have n4_ := Aside0.mk (hb)
                   have n5_ := Aside0.mk (ho)
                   clear HO_4
                   clear HO_8
                   clear HO_333001
                   clear BK332
                   clear HB
                   clear HO_333000
                   have HO_4 := n0_
                   have HO_8 := n1_
                   have HO_333001 := n2_
                   have BK332 := n3_
                   have HB := n4_
                   have HO347 := n5_
                   clear n0_ n1_ n2_ n3_ n4_ n5_
                   clear ho hb hg hat
                   obtain ⟨Ao57, co57, eo57⟩ := Kd.R_slice HO347.out
                   (first | subst eo57 | (injection eo57 with f1_ f2_ f3_; have f4_ := f1_.symm; have f5_ := f3_.symm; clear f1_ f2_ f3_; subst f4_; subst f5_))
                   refine hK.out _ _ ⟨(blk_cell BK332.out 0).trans rfl, (blk_cell BK332.out 1).trans rfl, ((HB.out.cell (World.block_lt_of_cell? w _ hw344_0)).trans hw344_0), ((HB.out.cell (World.block_lt_of_cell? w _ hw344_1)).trans hw344_1)⟩ (fun hHeld => ?_)
                   clear hK K
                   refine norm_ (a' := ?_) ?_ ?_
                   rotate_left
                   ·show Act.put _ (some 129) _ = _
                    simp only [Act.put, List.setIfInBounds_toArray, List.set_cons_zero, List.set_cons_succ, i64_w, i32_w]
                    rfl
                   refine pure_ (i := 8) (N := some 130) (v := ?_) (a' := ?_) #[true, true, true, true, true, true, true, true, true, false] rfl rfl (any_of HT_.out (by kernel_rfl)) (fun _ _ _ h => h) (Or.inl ⟨by rfl, ?_⟩) ?_ ?_
                   rotate_left
                   ·intro w'
                    go_simp
                    with_reducible rfl
                   rotate_left
                   ·simp only [Act.put, List.setIfInBounds_toArray, List.set_cons_zero, List.set_cons_succ, i64_w, i32_w]
                    rfl
                   refine last_ (i := 9) (N := none) #[true, true, true, true, true, true, true, true, true, true] rfl rfl (one_of HT_.out (by kernel_rfl)) (by decide) (fun K hK => ?_)
                   have hs58 : w56.cell? ⟨gb332, 0, none⟩ = some (u333000) := (blk_cell BK332.out 0).trans rfl
                   have hfs58 := blk_frozen BK332.out 0
                   refine skip_ (w1 := ?_) (by rfl) rfl ?_ ?_
                   rotate_left
                   ·go_simp
                    rfl
                   refine hK.out _ _ ?_
                   clear hK K
                   refine done_ (done_of HT_.out (by kernel_rfl)) ?_
                   obtain ⟨Ao60, co60, eo60⟩ := Kd.R_slice HO_8.out
                   subst eo60
                   try go_wp2_with (first | ((with_reducible refine gate_builtin (b := .append) (xs := #[.tmp 131, .tmp 132]) rfl ?_); (try (refine gate_guard (by rfl) ?_; dsimp only)); at_builtin; refine Kd.R_append_rows Kd.bool (w0 := w) w.heap.size rfl (.tmp 131) (.tmp 132) 34 4 (.bool false) 1 rfl Try.underlying34 info4 rfl (by decide) (by omega) u4 x4_1 t337 _ _ _ (fun k_ => some k_ ≠ (.slice Ao60 t337.length co60 : Value).ownBlock) (fun _ => False) rfl rfl ?aO ?aR (fun _ _ h => h) (fun _ h => h.elim) ?aF ?aB ?aS ?aL ?_; (case aR => refine (Kd.R_reads' (e := 4) (base := w.heap.size) (ok := fun k_ => some k_ ≠ (u4 : Value).ownBlock) (n := t337.length) (c := co60) ?_).2.2; exact (by (with_reducible repeat (first | apply Kd.R_alloc | apply Kd.R_drewN | apply Kd.R_drew)); exact (Kd.R_mono (Kd.R_far (p := ⟨gb332, 0, none⟩) (Kd.R_types HO_8.out BK332.out (by decide)) (fun _ hk => hk.2) (.slice Ao57 y345.length co57)) (fun _ h_ => h_.1)))); (case aB => exact (by repeat (first | (with_reducible first | exact HB.out | apply below_alloc | apply pw_below_drewN | apply below_drew1 | refine below_set ?_ GE332.out) | exact HB.out))); (case aF => exact (fun k_ hk => Kd.fresh' (Kd.R_lt (by (with_reducible repeat (first | apply Kd.R_alloc | apply Kd.R_drewN | apply Kd.R_drew)); exact (Kd.R_mono (Kd.R_far (p := ⟨gb332, 0, none⟩) (Kd.R_types HO_8.out BK332.out (by decide)) (fun _ hk => hk.2) (.slice Ao57 y345.length co57)) (fun _ h_ => h_.1)))) k_ hk)); (case aO => exact (by (with_reducible repeat (first | apply Kd.R_alloc | apply Kd.R_drewN | apply Kd.R_drew)); exact Kd.R_mono (Kd.R_far (p := ⟨gb332, 0, none⟩) (Kd.R_types HO_4.out BK332.out (by decide)) (fun _ hk => hk.2) (.slice Ao57 y345.length co57)) (fun _ hk => hk.1))); (case aS => exact (below_size (by repeat (first | (with_reducible first | exact HB.out | apply below_alloc | apply pw_below_drewN | apply below_drew1 | refine below_set ?_ GE332.out) | exact HB.out)))); (case aL => have := LMc54.out; omega); intro v349 w59 ho hb hg hat; rw [← Ny348.out] at ho; have n0_ := Aside0.mk (Kd.R_after (ok := (fun _ => True)) (by (with_reducible repeat (first | apply Kd.R_alloc | apply Kd.R_drewN | apply Kd.R_drew)); exact Kd.R_mono (Kd.R_far (p := ⟨gb332, 0, none⟩) (Kd.R_types HO_8.out BK332.out (by decide)) (fun _ hk => hk.2) (.slice Ao57 y345.length co57)) (fun _ hk => ⟨trivial, hk.1⟩)) hg hat); have n1_ := Aside0.mk (Kd.S_over' (by (with_reducible repeat (first | apply Kd.S_alloc | apply Kd.S_drewN | apply Kd.S_drew)); exact (Kd.S_mono (Kd.S_far (p := ⟨gb332, 0, none⟩) (Kd.S_types HO_333001.out BK332.out (by decide)) (fun _ hk => hk.2) (.slice Ao57 y345.length co57)) (fun _ h_ => h_.1))) (Kd.R_typed (by (with_reducible repeat (first | apply Kd.R_alloc | apply Kd.R_drewN | apply Kd.R_drew)); exact (Kd.R_mono (Kd.R_far (p := ⟨gb332, 0, none⟩) (Kd.R_types HO_4.out BK332.out (by decide)) (fun _ hk => hk.2) (.slice Ao57 y345.length co57)) (fun _ h_ => h_.1)))) (by decide) hg); have n2_ := Aside0.mk (blk_grown (g := gb332) (o := .cells #[.slice Ao57 y345.length co57, u333001] 25 (0, 0)) (by (with_reducible repeat (first | refine blk_drewN ?_ _ | refine blk_drew ?_ | refine blk_alloc ?_ _)); refine blk_put (cs := #[u333000, u333001]) ?_ 0 _ rfl; (with_reducible repeat (first | refine blk_drewN ?_ _ | refine blk_drew ?_ | refine blk_alloc ?_ _)); exact BK332.out) hg (Kd.R_ne HO_4.out BK332.out (by decide))); have n3_ := Aside0.mk (Kd.R_over' (by (with_reducible repeat (first | apply Kd.R_alloc | apply Kd.R_drewN | apply Kd.R_drew)); exact (Kd.R_mono (Kd.R_far (p := ⟨gb332, 0, none⟩) (Kd.R_types HO347.out BK332.out (by decide)) (fun _ hk => hk.2) (.slice Ao57 y345.length co57)) (fun _ h_ => h_.1))) (Kd.R_typed (by (with_reducible repeat (first | apply Kd.R_alloc | apply Kd.R_drewN | apply Kd.R_drew)); exact (Kd.R_mono (Kd.R_far (p := ⟨gb332, 0, none⟩) (Kd.R_types HO_4.out BK332.out (by decide)) (fun _ hk => hk.2) (.slice Ao57 y345.length co57)) (fun _ h_ => h_.1)))) (by decide) hg); have n4_ := Aside0.mk (hb); have n5_ := Aside0.mk (ho); clear HO_8; clear HO_333001; clear BK332; clear HO347; clear HB; clear HO_4; have HO_8 := n0_; have HO_333001 := n1_; have BK332 := n2_; have HO347 := n3_; have HB := n4_; have HO350 := n5_; clear n0_ n1_ n2_ n3_ n4_ n5_; clear ho hb hg hat))
                   go_roundg k4
                   case measure => have := HK1.out; have := HJ10.out; have := HJ17.out; have := HK4.out; omega
                   case rel => exact ⟨(y348), (wrap64 (x5_1 + t340)), (x6_17), (wrap64 (x7_1 + 1)), (y345), (x333001_4), (.slice Ao57 y345.length co57), (u333001), (by first | rfl | (simp; done) | (simp [*]; done)), (by first | rfl | (simp; done) | (simp [*]; done)), (by first | rfl | (simp; done) | (simp [*]; done)), H', ⟨by have := HK1.out; have := HJ10.out; have := HJ17.out; have := HK4.out; omega⟩, ⟨by (with_reducible repeat (first | apply Kd.R_alloc | apply Kd.R_drewN | apply Kd.R_drew)); exact Kd.R_mono HO350.out (fun _ hk => trivial)⟩, ⟨by (with_reducible repeat (first | apply Kd.R_alloc | apply Kd.R_drewN | apply Kd.R_drew)); exact HO347.out⟩, ⟨by (with_reducible repeat (first | apply Kd.S_alloc | apply Kd.S_drewN | apply Kd.S_drew)); exact HO_333001.out⟩, ⟨by (with_reducible repeat (first | refine blk_drewN ?_ _ | refine blk_drew ?_ | refine blk_alloc ?_ _)); exact BK332.out⟩, ⟨by repeat (first | (with_reducible first | exact HB.out | apply below_alloc | apply pw_below_drewN | apply below_drew1 | refine below_set ?_ GE332.out) | exact HB.out)⟩⟩
                  ·rw [if_neg c54] at H
                   exact absurd H (by simp)
                 ·rw [if_neg c53] at H
                  exact absurd H (by simp)
               ·rw [if_neg c21] at H
                exact absurd H (by simp)
              ·rw [if_neg c20] at H
               exact absurd H (by simp)
      ·replace c9 := Bool.eq_false_iff.mpr c9
       subst c9
       have H1 : ((saturatelaw41_lives.f k1).bind fun t335 => (some t335)) = some r := by rw [if_neg (show ¬ (false = true) by decide)] at H; exact H
       clear H
       have H := H1
       clear H1
       replace H := Option.bind_eq_some_iff.mp H
       obtain ⟨t335, A610, H⟩ := H
       replace H : (some t335) = some r := H
       have A61 := Aside0.mk A610
       clear A610
       obtain rfl := Option.some.inj H
       have p333 : 0 ≤ (x7_1 : Int) := of_decide_eq_true (by first | (with_reducible assumption) | assumption)
       have q333 : x7_1 < (l0.length : Int) := of_decide_eq_true (by first | (with_reducible assumption) | assumption)
       obtain ⟨ad333, A333_0, c333_0, A333_1, c333_1, e333, hx333_0, hx333_1, hl333_0, hi333_0, hl333_1, hi333_1⟩ := at_T25 HR0.out x7_1 p333 q333
       cases e333
       replace hx333_0 := (HB.out.cell (World.block_lt_of_cell? w _ hx333_0)).trans hx333_0
       replace hx333_1 := (HB.out.cell (World.block_lt_of_cell? w _ hx333_1)).trans hx333_1
       have HR333_0 := Aside0.mk hi333_0
       have HC333_0 := Aside0.mk hl333_0
       clear hi333_0 hl333_0
       have HR333_1 := Aside0.mk hi333_1
       have HC333_1 := Aside0.mk hl333_1
       clear hi333_1 hl333_1
       replace p333 := eq_true p333
       replace q333 := eq_true q333
       go_wp2_with (first | ((with_reducible refine gate_callee (f := 8) rfl ?_); refine goesL_ (some 32) rfl rfl Try.func8 (by kernel_rfl) rfl #[.agg #[.slice A333_0 ((rd_T25 l0 x7_1).f0).length c333_0, .slice A333_1 ((rd_T25 l0 x7_1).f1).length c333_1], .int .i64 6] rfl (by (try simp only [List.map_toArray, List.map_cons, List.map_nil]); first | done | rfl | (simp only [List.length_drop, List.length_take]; rfl)) ?_; (with_reducible refine (saturatelaw41_few.calls k1 _ _ ((rd_T25 l0 x7_1).f0) _ _ ((rd_T25 l0 x7_1).f1) 6 false _ ?side1 ?side2 ?side3 ?side4 A8.out).mono ?_); (case side1 => repeat (first | exact (Kd.C_below HR333_0.out HB.out) | (with_reducible refine Kd.C_alloc ?_ _) | (with_reducible refine Kd.C_drewN ?_ _) | (with_reducible refine Kd.C_drew ?_))); (case side2 => exact HC333_0.out); (case side3 => repeat (first | exact (Kd.C_below HR333_1.out HB.out) | (with_reducible refine Kd.C_alloc ?_ _) | (with_reducible refine Kd.C_drewN ?_ _) | (with_reducible refine Kd.C_drew ?_))); (case side4 => exact HC333_1.out); rintro e w62 ⟨rfl, hb⟩; refine ⟨_, rfl, ?_⟩; have n0_ := Aside0.mk (Kd.R_below (by (with_reducible repeat (first | apply Kd.R_alloc | apply Kd.R_drewN | apply Kd.R_drew)); exact HO_4.out) hb); have n1_ := Aside0.mk (Kd.R_below (by (with_reducible repeat (first | apply Kd.R_alloc | apply Kd.R_drewN | apply Kd.R_drew)); exact HO_333000.out) hb); have n2_ := Aside0.mk (Kd.S_below (by (with_reducible repeat (first | apply Kd.S_alloc | apply Kd.S_drewN | apply Kd.S_drew)); exact HO_333001.out) hb); have n3_ := Aside0.mk (blk_below (g := gb332) (o := .cells #[u333000, u333001] 25 (0, 0)) (by (with_reducible repeat (first | refine blk_drewN ?_ _ | refine blk_drew ?_ | refine blk_alloc ?_ _)); exact BK332.out) hb); have n4_ := Aside0.mk (below_step (by repeat (first | (with_reducible first | exact HB.out | apply below_alloc | apply pw_below_drewN | apply below_drew1 | refine below_set ?_ GE332.out) | exact HB.out)) hb); clear HO_4; clear HO_333000; clear HO_333001; clear BK332; clear HB; have HO_4 := n0_; have HO_333000 := n1_; have HO_333001 := n2_; have BK332 := n3_; have HB := n4_; clear n0_ n1_ n2_ n3_ n4_; (try clear hb); (try clear hb2); (try clear hk); (try clear hi)) | ((with_reducible refine gate_callee (f := 9) rfl ?_); refine goesL_ (some 34) rfl rfl Try.func9 (by kernel_rfl) rfl #[] rfl (by (try simp only [List.map_toArray, List.map_cons, List.map_nil]); first | done | rfl | (simp only [List.length_drop, List.length_take]; rfl)) ?_; (with_reducible refine (saturatelaw41_lives.calls k1  t335 _ A61.out).mono ?_); rintro e w63 ⟨rfl, hb⟩; refine ⟨_, rfl, ?_⟩; have n0_ := Aside0.mk (Kd.R_below (by (with_reducible repeat (first | apply Kd.R_alloc | apply Kd.R_drewN | apply Kd.R_drew)); exact HO_4.out) hb); have n1_ := Aside0.mk (Kd.R_below (by (with_reducible repeat (first | apply Kd.R_alloc | apply Kd.R_drewN | apply Kd.R_drew)); exact HO_333000.out) hb); have n2_ := Aside0.mk (Kd.S_below (by (with_reducible repeat (first | apply Kd.S_alloc | apply Kd.S_drewN | apply Kd.S_drew)); exact HO_333001.out) hb); have n3_ := Aside0.mk (blk_below (g := gb332) (o := .cells #[u333000, u333001] 25 (0, 0)) (by (with_reducible repeat (first | refine blk_drewN ?_ _ | refine blk_drew ?_ | refine blk_alloc ?_ _)); exact BK332.out) hb); have n4_ := Aside0.mk (below_step (by repeat (first | (with_reducible first | exact HB.out | apply below_alloc | apply pw_below_drewN | apply below_drew1 | refine below_set ?_ GE332.out) | exact HB.out)) hb); clear HO_4; clear HO_333000; clear HO_333001; clear BK332; clear HB; have HO_4 := n0_; have HO_333000 := n1_; have HO_333001 := n2_; have BK332 := n3_; have HB := n4_; clear n0_ n1_ n2_ n3_ n4_; (try clear hb); (try clear hb2); (try clear hk); (try clear hi)))
       go_ret
       exact ⟨by first | rfl | (simp [errW_none, errW_some] <;> rfl) | (simp [*, errW_none, errW_some] <;> rfl), by repeat (first | (with_reducible first | exact HB.out | apply below_alloc | apply pw_below_drewN | apply below_drew1 | refine below_set ?_ GE332.out) | exact HB.out)⟩
     ·rw [if_neg c7] at H
      exact absurd H (by simp)
    ·rw [if_neg c6] at H
     have c6b0 : decide (x7_1 < (l0.length : Int)) = false := decide_eq_false c6
     clear c6
     replace H := Option.bind_eq_some_iff.mp H
     obtain ⟨⟨t366, t369, t370⟩, A640, H⟩ := H
     replace H : (if x6_1 = true then (if t370 = 0 then (if t369 = x5_1 then ((saturateref41_Same.f k1 t366 x4_1).bind fun t371 => (if t371 = true then ((saturatelaw41_lives.f k1).bind fun t372 => (some t372)) else (some false))) else (some false)) else (some false)) else (if t370 = 16 then (if (t366.length : Int) = 0 then (if t369 = 0 then ((saturatelaw41_lives.f k1).bind fun t373 => (some t373)) else (some false)) else (some false)) else (some false))) = some r := H
     have A64 := Aside0.mk A640
     clear A640
     by_cases c65 : x6_1 = true
     ·subst c65
      have H1 : (if t370 = 0 then (if t369 = x5_1 then ((saturateref41_Same.f k1 t366 x4_1).bind fun t371 => (if t371 = true then ((saturatelaw41_lives.f k1).bind fun t372 => (some t372)) else (some false))) else (some false)) else (some false)) = some r := by rw [if_pos rfl] at H; exact H
      clear H
      have H := H1
      clear H1
      by_cases c66 : t370 = 0
      ·rw [if_pos c66] at H
       have c66b0 : (t370 == 0) = true := beq_iff_eq.mpr c66
       have c66b1 : (t370 != 0) = false := bne_eq_false_iff_eq.mpr c66
       clear c66
       by_cases c67 : t369 = x5_1
       ·rw [if_pos c67] at H
        have c67b0 : (t369 == x5_1) = true := beq_iff_eq.mpr c67
        have c67b1 : (t369 != x5_1) = false := bne_eq_false_iff_eq.mpr c67
        clear c67
        replace H := Option.bind_eq_some_iff.mp H
        obtain ⟨t371, A680, H⟩ := H
        replace H : (if t371 = true then ((saturatelaw41_lives.f k1).bind fun t372 => (some t372)) else (some false)) = some r := H
        have A68 := Aside0.mk A680
        clear A680
        by_cases c69 : t371 = true
        ·subst c69
         have H1 : ((saturatelaw41_lives.f k1).bind fun t372 => (some t372)) = some r := by rw [if_pos rfl] at H; exact H
         clear H
         have H := H1
         clear H1
         replace H := Option.bind_eq_some_iff.mp H
         obtain ⟨t372, A700, H⟩ := H
         replace H : (some t372) = some r := H
         have A70 := Aside0.mk A700
         clear A700
         obtain rfl := Option.some.inj H
         have hcz71_0 : wr.cell? ⟨gb332, 0, none⟩ = some (u333000) := (blk_cell BK332.out 0).trans rfl
         have hcz71_1 : wr.cell? ⟨gb332, 1, none⟩ = some (u333001) := (blk_cell BK332.out 1).trans rfl
         have hfz71_0 := blk_frozen BK332.out 0
         have hfz71_1 := blk_frozen BK332.out 1
         obtain ⟨Ao72, co72, eo72⟩ := Kd.R_slice HO_333000.out
         subst eo72
         obtain ⟨Ao73, co73, eo73⟩ := Kd.S_slice HO_333001.out
         subst eo73
         go_wp2_with (first | ((with_reducible refine gate_callee (f := 15) rfl ?_); refine goesL_ (some 139) rfl rfl Try.func15 (by kernel_rfl) rfl #[.agg #[.slice Ao72 x333000_1.length co72, .slice Ao73 x333001_1.length co73]] rfl (by (try simp only [List.map_toArray, List.map_cons, List.map_nil]); first | done | rfl | (simp only [List.length_drop, List.length_take]; rfl)) ?_; (with_reducible refine (ilp_Solve.calls _ _ x333000_1 _ _ x333001_1 t366 t369 t370 _ ?side1 ?side2 ?side3 ?side4 A64.out).mono ?_); (case side1 => repeat (first | exact (Kd.R_reads' HO_333000.out).2.2 | (with_reducible refine Kd.C_alloc ?_ _) | (with_reducible refine Kd.C_drewN ?_ _) | (with_reducible refine Kd.C_drew ?_))); (case side2 => exact (Kd.R_reads' HO_333000.out).2.1); (case side3 => repeat (first | exact (Kd.S_reads' HO_333001.out).2.2 | (with_reducible refine Kd.C_alloc ?_ _) | (with_reducible refine Kd.C_drewN ?_ _) | (with_reducible refine Kd.C_drew ?_))); (case side4 => exact (Kd.S_reads' HO_333001.out).2.1); rintro e w74 ⟨v367, rfl, ho0, hb⟩; refine ⟨_, rfl, ?_⟩; have n0_ := Aside0.mk (Kd.R_elder' (by (with_reducible repeat (first | apply Kd.R_alloc | apply Kd.R_drewN | apply Kd.R_drew)); exact HO_4.out) (Kd.R_base ho0) hb); have n1_ := Aside0.mk (Kd.R_below (by (with_reducible repeat (first | apply Kd.R_alloc | apply Kd.R_drewN | apply Kd.R_drew)); exact HO_333000.out) hb); have n2_ := Aside0.mk (Kd.S_below (by (with_reducible repeat (first | apply Kd.S_alloc | apply Kd.S_drewN | apply Kd.S_drew)); exact HO_333001.out) hb); have n3_ := Aside0.mk (Kd.R_lower (Kd.R_new' ho0 (Kd.R_lt (by (with_reducible repeat (first | apply Kd.R_alloc | apply Kd.R_drewN | apply Kd.R_drew)); exact HO_4.out))) (below_size (by repeat (first | (with_reducible first | exact HB.out | apply below_alloc | apply pw_below_drewN | apply below_drew1 | refine below_set ?_ GE332.out) | exact HB.out)))); have n4_ := Aside0.mk (blk_below (g := gb332) (o := .cells #[.slice Ao72 x333000_1.length co72, .slice Ao73 x333001_1.length co73] 25 (0, 0)) (by (with_reducible repeat (first | refine blk_drewN ?_ _ | refine blk_drew ?_ | refine blk_alloc ?_ _)); exact BK332.out) hb); have n5_ := Aside0.mk (below_step (by repeat (first | (with_reducible first | exact HB.out | apply below_alloc | apply pw_below_drewN | apply below_drew1 | refine below_set ?_ GE332.out) | exact HB.out)) hb); clear HO_4; clear HO_333000; clear HO_333001; clear BK332; clear HB; have HO_4 := n0_; have HO_333000 := n1_; have HO_333001 := n2_; have HO368 := n3_; have BK332 := n4_; have HB := n5_; clear n0_ n1_ n2_ n3_ n4_ n5_; (try clear hb); (try clear hb2); (try clear hk); (try clear hi); (try clear ho0); obtain ⟨Ao75, co75, eo75⟩ := Kd.R_slice HO368.out; subst eo75; obtain ⟨Ao76, co76, eo76⟩ := Kd.R_slice HO_4.out; subst eo76) | (go_at_call 17; (with_reducible refine (saturateref41_Same.calls k1 _ _ t366 _ _ x4_1 true _ ?side1 ?side2 ?side3 ?side4 A68.out).mono ?_); (case side1 => repeat (first | exact (Kd.R_reads' HO368.out).2.2 | (with_reducible refine Kd.C_alloc ?_ _) | (with_reducible refine Kd.C_drewN ?_ _) | (with_reducible refine Kd.C_drew ?_))); (case side2 => exact (Kd.R_reads' HO368.out).2.1); (case side3 => repeat (first | exact (Kd.R_reads' HO_4.out).2.2 | (with_reducible refine Kd.C_alloc ?_ _) | (with_reducible refine Kd.C_drewN ?_ _) | (with_reducible refine Kd.C_drew ?_))); (case side4 => exact (Kd.R_reads' HO_4.out).2.1); rintro e w' ⟨rfl, ⟨nd, rfl⟩⟩) | (go_at_call 9; (with_reducible refine (saturatelaw41_lives.calls k1  t372 _ A70.out).mono ?_); rintro e w77 ⟨rfl, hb⟩; have n0_ := Aside0.mk (Kd.R_below (by (with_reducible repeat (first | apply Kd.R_alloc | apply Kd.R_drewN | apply Kd.R_drew)); exact HO_4.out) hb); have n1_ := Aside0.mk (Kd.R_below (by (with_reducible repeat (first | apply Kd.R_alloc | apply Kd.R_drewN | apply Kd.R_drew)); exact HO_333000.out) hb); have n2_ := Aside0.mk (Kd.S_below (by (with_reducible repeat (first | apply Kd.S_alloc | apply Kd.S_drewN | apply Kd.S_drew)); exact HO_333001.out) hb); have n3_ := Aside0.mk (Kd.R_below (by (with_reducible repeat (first | apply Kd.R_alloc | apply Kd.R_drewN | apply Kd.R_drew)); exact HO368.out) hb); have n4_ := Aside0.mk (blk_below (g := gb332) (o := .cells #[.slice Ao72 x333000_1.length co72, .slice Ao73 x333001_1.length co73] 25 (0, 0)) (by (with_reducible repeat (first | refine blk_drewN ?_ _ | refine blk_drew ?_ | refine blk_alloc ?_ _)); exact BK332.out) hb); have n5_ := Aside0.mk (below_step (by repeat (first | (with_reducible first | exact HB.out | apply below_alloc | apply pw_below_drewN | apply below_drew1 | refine below_set ?_ GE332.out) | exact HB.out)) hb); clear HO_4; clear HO_333000; clear HO_333001; clear HO368; clear BK332; clear HB; have HO_4 := n0_; have HO_333000 := n1_; have HO_333001 := n2_; have HO368 := n3_; have BK332 := n4_; have HB := n5_; clear n0_ n1_ n2_ n3_ n4_ n5_; (try clear hb); (try clear hb2); (try clear hk); (try clear hi)))
         go_ret
         exact ⟨by first | rfl | (simp [errW_none, errW_some] <;> rfl) | (simp [*, errW_none, errW_some] <;> rfl), by repeat (first | (with_reducible first | exact HB.out | apply below_alloc | apply pw_below_drewN | apply below_drew1 | refine below_set ?_ GE332.out) | exact HB.out)⟩
        ·replace c69 := Bool.eq_false_iff.mpr c69
         subst c69
         have H1 : (some false) = some r := by rw [if_neg (show ¬ (false = true) by decide)] at H; exact H
         clear H
         have H := H1
         clear H1
         exact absurd ((Option.some.inj H).trans hrT.out) (by decide)
       ·rw [if_neg c67] at H
        have c67b0 : (t369 == x5_1) = false := beq_eq_false_iff_ne.mpr c67
        have c67b1 : (t369 != x5_1) = true := bne_iff_ne.mpr c67
        exact absurd ((Option.some.inj H).trans hrT.out) (by decide)
      ·rw [if_neg c66] at H
       have c66b0 : (t370 == 0) = false := beq_eq_false_iff_ne.mpr c66
       have c66b1 : (t370 != 0) = true := bne_iff_ne.mpr c66
       exact absurd ((Option.some.inj H).trans hrT.out) (by decide)
     ·replace c65 := Bool.eq_false_iff.mpr c65
      subst c65
      have H1 : (if t370 = 16 then (if (t366.length : Int) = 0 then (if t369 = 0 then ((saturatelaw41_lives.f k1).bind fun t373 => (some t373)) else (some false)) else (some false)) else (some false)) = some r := by rw [if_neg (show ¬ (false = true) by decide)] at H; exact H
      clear H
      have H := H1
      clear H1
      by_cases c78 : t370 = 16
      ·rw [if_pos c78] at H
       have c78b0 : (t370 == 16) = true := beq_iff_eq.mpr c78
       have c78b1 : (t370 != 16) = false := bne_eq_false_iff_eq.mpr c78
       clear c78
       by_cases c79 : (t366.length : Int) = 0
       ·rw [if_pos c79] at H
        have c79b0 : ((t366.length : Int) == 0) = true := beq_iff_eq.mpr c79
        have c79b1 : ((t366.length : Int) != 0) = false := bne_eq_false_iff_eq.mpr c79
        clear c79
        by_cases c80 : t369 = 0
        ·rw [if_pos c80] at H
         have c80b0 : (t369 == 0) = true := beq_iff_eq.mpr c80
         have c80b1 : (t369 != 0) = false := bne_eq_false_iff_eq.mpr c80
         clear c80
         replace H := Option.bind_eq_some_iff.mp H
         obtain ⟨t373, A810, H⟩ := H
         replace H : (some t373) = some r := H
         have A81 := Aside0.mk A810
         clear A810
         obtain rfl := Option.some.inj H
         have hcz82_0 : wr.cell? ⟨gb332, 0, none⟩ = some (u333000) := (blk_cell BK332.out 0).trans rfl
         have hcz82_1 : wr.cell? ⟨gb332, 1, none⟩ = some (u333001) := (blk_cell BK332.out 1).trans rfl
         have hfz82_0 := blk_frozen BK332.out 0
         have hfz82_1 := blk_frozen BK332.out 1
         obtain ⟨Ao83, co83, eo83⟩ := Kd.R_slice HO_333000.out
         subst eo83
         obtain ⟨Ao84, co84, eo84⟩ := Kd.S_slice HO_333001.out
         subst eo84
         go_wp2_with (first | ((with_reducible refine gate_callee (f := 15) rfl ?_); refine goesL_ (some 139) rfl rfl Try.func15 (by kernel_rfl) rfl #[.agg #[.slice Ao83 x333000_1.length co83, .slice Ao84 x333001_1.length co84]] rfl (by (try simp only [List.map_toArray, List.map_cons, List.map_nil]); first | done | rfl | (simp only [List.length_drop, List.length_take]; rfl)) ?_; (with_reducible refine (ilp_Solve.calls _ _ x333000_1 _ _ x333001_1 t366 t369 t370 _ ?side1 ?side2 ?side3 ?side4 A64.out).mono ?_); (case side1 => repeat (first | exact (Kd.R_reads' HO_333000.out).2.2 | (with_reducible refine Kd.C_alloc ?_ _) | (with_reducible refine Kd.C_drewN ?_ _) | (with_reducible refine Kd.C_drew ?_))); (case side2 => exact (Kd.R_reads' HO_333000.out).2.1); (case side3 => repeat (first | exact (Kd.S_reads' HO_333001.out).2.2 | (with_reducible refine Kd.C_alloc ?_ _) | (with_reducible refine Kd.C_drewN ?_ _) | (with_reducible refine Kd.C_drew ?_))); (case side4 => exact (Kd.S_reads' HO_333001.out).2.1); rintro e w85 ⟨v367, rfl, ho0, hb⟩; refine ⟨_, rfl, ?_⟩; have n0_ := Aside0.mk (Kd.R_elder' (by (with_reducible repeat (first | apply Kd.R_alloc | apply Kd.R_drewN | apply Kd.R_drew)); exact HO_4.out) (Kd.R_base ho0) hb); have n1_ := Aside0.mk (Kd.R_below (by (with_reducible repeat (first | apply Kd.R_alloc | apply Kd.R_drewN | apply Kd.R_drew)); exact HO_333000.out) hb); have n2_ := Aside0.mk (Kd.S_below (by (with_reducible repeat (first | apply Kd.S_alloc | apply Kd.S_drewN | apply Kd.S_drew)); exact HO_333001.out) hb); have n3_ := Aside0.mk (Kd.R_lower (Kd.R_new' ho0 (Kd.R_lt (by (with_reducible repeat (first | apply Kd.R_alloc | apply Kd.R_drewN | apply Kd.R_drew)); exact HO_4.out))) (below_size (by repeat (first | (with_reducible first | exact HB.out | apply below_alloc | apply pw_below_drewN | apply below_drew1 | refine below_set ?_ GE332.out) | exact HB.out)))); have n4_ := Aside0.mk (blk_below (g := gb332) (o := .cells #[.slice Ao83 x333000_1.length co83, .slice Ao84 x333001_1.length co84] 25 (0, 0)) (by (with_reducible repeat (first | refine blk_drewN ?_ _ | refine blk_drew ?_ | refine blk_alloc ?_ _)); exact BK332.out) hb); have n5_ := Aside0.mk (below_step (by repeat (first | (with_reducible first | exact HB.out | apply below_alloc | apply pw_below_drewN | apply below_drew1 | refine below_set ?_ GE332.out) | exact HB.out)) hb); clear HO_4; clear HO_333000; clear HO_333001; clear BK332; clear HB; have HO_4 := n0_; have HO_333000 := n1_; have HO_333001 := n2_; have HO368 := n3_; have BK332 := n4_; have HB := n5_; clear n0_ n1_ n2_ n3_ n4_ n5_; (try clear hb); (try clear hb2); (try clear hk); (try clear hi); (try clear ho0); obtain ⟨Ao86, co86, eo86⟩ := Kd.R_slice HO368.out; subst eo86) | (go_at_call 9; (with_reducible refine (saturatelaw41_lives.calls k1  t373 _ A81.out).mono ?_); rintro e w87 ⟨rfl, hb⟩; have n0_ := Aside0.mk (Kd.R_below (by (with_reducible repeat (first | apply Kd.R_alloc | apply Kd.R_drewN | apply Kd.R_drew)); exact HO_4.out) hb); have n1_ := Aside0.mk (Kd.R_below (by (with_reducible repeat (first | apply Kd.R_alloc | apply Kd.R_drewN | apply Kd.R_drew)); exact HO_333000.out) hb); have n2_ := Aside0.mk (Kd.S_below (by (with_reducible repeat (first | apply Kd.S_alloc | apply Kd.S_drewN | apply Kd.S_drew)); exact HO_333001.out) hb); have n3_ := Aside0.mk (Kd.R_below (by (with_reducible repeat (first | apply Kd.R_alloc | apply Kd.R_drewN | apply Kd.R_drew)); exact HO368.out) hb); have n4_ := Aside0.mk (blk_below (g := gb332) (o := .cells #[.slice Ao83 x333000_1.length co83, .slice Ao84 x333001_1.length co84] 25 (0, 0)) (by (with_reducible repeat (first | refine blk_drewN ?_ _ | refine blk_drew ?_ | refine blk_alloc ?_ _)); exact BK332.out) hb); have n5_ := Aside0.mk (below_step (by repeat (first | (with_reducible first | exact HB.out | apply below_alloc | apply pw_below_drewN | apply below_drew1 | refine below_set ?_ GE332.out) | exact HB.out)) hb); clear HO_4; clear HO_333000; clear HO_333001; clear HO368; clear BK332; clear HB; have HO_4 := n0_; have HO_333000 := n1_; have HO_333001 := n2_; have HO368 := n3_; have BK332 := n4_; have HB := n5_; clear n0_ n1_ n2_ n3_ n4_ n5_; (try clear hb); (try clear hb2); (try clear hk); (try clear hi)))
         go_ret
         exact ⟨by first | rfl | (simp [errW_none, errW_some] <;> rfl) | (simp [*, errW_none, errW_some] <;> rfl), by repeat (first | (with_reducible first | exact HB.out | apply below_alloc | apply pw_below_drewN | apply below_drew1 | refine below_set ?_ GE332.out) | exact HB.out)⟩
        ·rw [if_neg c80] at H
         have c80b0 : (t369 == 0) = false := beq_eq_false_iff_ne.mpr c80
         have c80b1 : (t369 != 0) = true := bne_iff_ne.mpr c80
         exact absurd ((Option.some.inj H).trans hrT.out) (by decide)
       ·rw [if_neg c79] at H
        have c79b0 : ((t366.length : Int) == 0) = false := beq_eq_false_iff_ne.mpr c79
        have c79b1 : ((t366.length : Int) != 0) = true := bne_iff_ne.mpr c79
        have c79b2 : ¬ (t366 = []) := fun h_ => c79 (by rw [h_]; rfl)
        exact absurd ((Option.some.inj H).trans hrT.out) (by decide)
      ·rw [if_neg c78] at H
       have c78b0 : (t370 == 16) = false := beq_eq_false_iff_ne.mpr c78
       have c78b1 : (t370 != 16) = true := bne_iff_ne.mpr c78
       exact absurd ((Option.some.inj H).trans hrT.out) (by decide)

end Go.Proofs.Ytiigmklolapckaa.QAll
