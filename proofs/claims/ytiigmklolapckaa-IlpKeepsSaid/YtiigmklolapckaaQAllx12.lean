/- What functions of the translation compute, and that the machine's calls of them come to that: printed by this session's own program, a variant of the print. No condition. -/
import Derived.Test.YtiigmklolapckaaQAllx0
import Derived.Test.YtiigmklolapckaaQAllx11
namespace Go.Proofs.Ytiigmklolapckaa.QAll
open Go.RowKit Go.Proofs.YtiigmklolapckaaW.PrintWords Go.Proofs.YtiigmklolapckaaW.PrintLast Go.Proofs.YtiigmklolapckaaW.PrintMore
attribute [local go_sem] max2_int min2_int max_two min_two max_three min_three max_four min_four   -- for this text's walks alone
set_option linter.unusedVariables false
set_option linter.unusedSimpArgs false

/-! ### saturateref41_next: function 31 -/
mutual
def saturateref41_next.l0 : Nat → List Int → Int → List Int → List (S43) → Option (List Int × Bool × Bool)
 | 0, _, _, _, _ => none
 | k + 1, x1, x7, x270000, x270001 => if x7 < (x270001.length : Int) then (if 0 ≤ x7 then ((saturateref41_reach.f k ((rd_T43 x270001 x7).f0) ((rd_T43 x270001 x7).f1) x1).bind fun t272 => (if t272 < ((rd_T43 x270001 x7).f1) then (some (x1, false, false)) else (saturateref41_next.l1 k x1 x7 t272 0 x270000 x270001 ((rd_T43 x270001 x7).f0) ((rd_T43 x270001 x7).f1)))) else (none)) else (some (x1, false, true))
def saturateref41_next.l1 : Nat → List Int → Int → Int → Int → List Int → List (S43) → List (S45) → Int → Option (List Int × Bool × Bool)
 | 0, _, _, _, _, _, _, _, _ => none
 | k + 1, x1, x7, x9, x10, x270000, x270001, x272000, x272001 => if x10 < (x272000.length : Int) then (if 0 ≤ x10 then (if 0 ≤ ((rd_T45 x272000 x10).f0) then (if ((rd_T45 x272000 x10).f0) < (x1.length : Int) then (if (rd x1 ((rd_T45 x272000 x10).f0)) = (-1) then (if ((rd_T45 x272000 x10).f1) > 0 then (saturateref41_next.j2 k x1 x7 x9 x10 (-1) (decide ((wrap64 (x9 - ((rd_T45 x272000 x10).f1))) < x272001)) x270000 x270001 x272000 x272001 ((rd_T45 x272000 x10).f0) ((rd_T45 x272000 x10).f1)) else (saturateref41_next.j2 k x1 x7 x9 x10 (-1) false x270000 x270001 x272000 x272001 ((rd_T45 x272000 x10).f0) ((rd_T45 x272000 x10).f1))) else (saturateref41_next.l1 k x1 x7 x9 (wrap64 (x10 + 1)) x270000 x270001 x272000 x272001)) else (none)) else (none)) else (none)) else (saturateref41_next.l0 k x1 (wrap64 (x7 + 1)) x270000 x270001)
def saturateref41_next.j2 : Nat → List Int → Int → Int → Int → Int → Bool → List Int → List (S43) → List (S45) → Int → Int → Int → Option (List Int × Bool × Bool)
 | 0, _, _, _, _, _, _, _, _, _, _, _, _ => none
 | k + 1, x1, x7, x9, x10, x12, x63, x270000, x270001, x272000, x272001, x275000, x275001 => if x63 = true then (saturateref41_next.j3 k x1 x7 x9 x10 1 x270000 x270001 x272000 x272001 x275000 x275001) else (saturateref41_next.j3 k x1 x7 x9 x10 x12 x270000 x270001 x272000 x272001 x275000 x275001)
def saturateref41_next.j3 : Nat → List Int → Int → Int → Int → Int → List Int → List (S43) → List (S45) → Int → Int → Int → Option (List Int × Bool × Bool)
 | 0, _, _, _, _, _, _, _, _, _, _, _ => none
 | k + 1, x1, x7, x9, x10, x12, x270000, x270001, x272000, x272001, x275000, x275001 => if x275001 < 0 then (saturateref41_next.j4 k x1 x7 x9 x10 x12 (decide ((wrap64 (x9 + x275001)) < x272001)) x270000 x270001 x272000 x272001 x275000 x275001) else (saturateref41_next.j4 k x1 x7 x9 x10 x12 false x270000 x270001 x272000 x272001 x275000 x275001)
def saturateref41_next.j4 : Nat → List Int → Int → Int → Int → Int → Bool → List Int → List (S43) → List (S45) → Int → Int → Int → Option (List Int × Bool × Bool)
 | 0, _, _, _, _, _, _, _, _, _, _, _, _ => none
 | k + 1, x1, x7, x9, x10, x12, x75, x270000, x270001, x272000, x272001, x275000, x275001 => if x75 = true then (if 0 ≥ 0 then (if ([] : List Int).length + x1.length < 17592186044416 then ((some (([] : List Int) ++ x1 : List Int)).bind fun y276 => (if 0 ≤ x275000 then (if x275000 < (y276.length : Int) then (some ((y276.set (x275000 : Int).toNat 0), true, true)) else (none)) else (none))) else (none)) else (saturateref41_next.l1 k x1 x7 x9 (wrap64 (x10 + 1)) x270000 x270001 x272000 x272001)) else (if x12 ≥ 0 then (if ([] : List Int).length + x1.length < 17592186044416 then ((some (([] : List Int) ++ x1 : List Int)).bind fun y280 => (if 0 ≤ x275000 then (if x275000 < (y280.length : Int) then (some ((y280.set (x275000 : Int).toNat x12), true, true)) else (none)) else (none))) else (none)) else (saturateref41_next.l1 k x1 x7 x9 (wrap64 (x10 + 1)) x270000 x270001 x272000 x272001))
end
def saturateref41_next.f (k : Nat) (l0_0 : List Int) (l0_1 : List (S43)) (l1 : List Int) : Option (List Int × Bool × Bool) := saturateref41_next.l0 k l1 0 l0_0 l0_1
theorem saturateref41_next.mono_l : ∀ k, (∀ y0 y1 y2 y3, LeO (saturateref41_next.l0 k y0 y1 y2 y3) (saturateref41_next.l0 (k + 1) y0 y1 y2 y3)) ∧ (∀ y0 y1 y2 y3 y4 y5 y6 y7, LeO (saturateref41_next.l1 k y0 y1 y2 y3 y4 y5 y6 y7) (saturateref41_next.l1 (k + 1) y0 y1 y2 y3 y4 y5 y6 y7)) ∧ (∀ y0 y1 y2 y3 y4 y5 y6 y7 y8 y9 y10 y11, LeO (saturateref41_next.j2 k y0 y1 y2 y3 y4 y5 y6 y7 y8 y9 y10 y11) (saturateref41_next.j2 (k + 1) y0 y1 y2 y3 y4 y5 y6 y7 y8 y9 y10 y11)) ∧ (∀ y0 y1 y2 y3 y4 y5 y6 y7 y8 y9 y10, LeO (saturateref41_next.j3 k y0 y1 y2 y3 y4 y5 y6 y7 y8 y9 y10) (saturateref41_next.j3 (k + 1) y0 y1 y2 y3 y4 y5 y6 y7 y8 y9 y10)) ∧ (∀ y0 y1 y2 y3 y4 y5 y6 y7 y8 y9 y10 y11, LeO (saturateref41_next.j4 k y0 y1 y2 y3 y4 y5 y6 y7 y8 y9 y10 y11) (saturateref41_next.j4 (k + 1) y0 y1 y2 y3 y4 y5 y6 y7 y8 y9 y10 y11))
 | 0 => ⟨fun _ _ _ _ r h => by simp [saturateref41_next.l0] at h, fun _ _ _ _ _ _ _ _ r h => by simp [saturateref41_next.l1] at h, fun _ _ _ _ _ _ _ _ _ _ _ _ r h => by simp [saturateref41_next.j2] at h, fun _ _ _ _ _ _ _ _ _ _ _ r h => by simp [saturateref41_next.j3] at h, fun _ _ _ _ _ _ _ _ _ _ _ _ r h => by simp [saturateref41_next.j4] at h⟩
 | k + 1 => by
  obtain ⟨ih0, ih1, ih2, ih3, ih4⟩ := saturateref41_next.mono_l k
  refine ⟨?_, ?_, ?_, ?_, ?_⟩
  ·intro y0 y1 y2 y3
   unfold saturateref41_next.l0
   repeat' first
   | (with_reducible exact ih0 _ _ _ _)
   | (with_reducible exact ih1 _ _ _ _ _ _ _ _)
   | (with_reducible exact ih2 _ _ _ _ _ _ _ _ _ _ _ _)
   | (with_reducible exact ih3 _ _ _ _ _ _ _ _ _ _ _)
   | (with_reducible exact ih4 _ _ _ _ _ _ _ _ _ _ _ _)
   | (with_reducible exact saturateref41_reach.mono _ _ _ _)
   | (with_reducible exact LeO.refl _)
   | (with_reducible exact LeO.none _)
   | (with_reducible refine LeO.ite ?_ ?_)
   | (with_reducible refine LeO.bind ?_ (fun _ => ?_))
   | exact ih0 _ _ _ _
   | exact ih1 _ _ _ _ _ _ _ _
   | exact ih2 _ _ _ _ _ _ _ _ _ _ _ _
   | exact ih3 _ _ _ _ _ _ _ _ _ _ _
   | exact ih4 _ _ _ _ _ _ _ _ _ _ _ _
   | exact saturateref41_reach.mono _ _ _ _
   | exact LeO.none _
   | refine LeO.ite ?_ ?_
   | refine LeO.bind ?_ (fun _ => ?_)
  ·intro y0 y1 y2 y3 y4 y5 y6 y7
   unfold saturateref41_next.l1
   repeat' first
   | (with_reducible exact ih0 _ _ _ _)
   | (with_reducible exact ih1 _ _ _ _ _ _ _ _)
   | (with_reducible exact ih2 _ _ _ _ _ _ _ _ _ _ _ _)
   | (with_reducible exact ih3 _ _ _ _ _ _ _ _ _ _ _)
   | (with_reducible exact ih4 _ _ _ _ _ _ _ _ _ _ _ _)
   | (with_reducible exact saturateref41_reach.mono _ _ _ _)
   | (with_reducible exact LeO.refl _)
   | (with_reducible exact LeO.none _)
   | (with_reducible refine LeO.ite ?_ ?_)
   | (with_reducible refine LeO.bind ?_ (fun _ => ?_))
   | exact ih0 _ _ _ _
   | exact ih1 _ _ _ _ _ _ _ _
   | exact ih2 _ _ _ _ _ _ _ _ _ _ _ _
   | exact ih3 _ _ _ _ _ _ _ _ _ _ _
   | exact ih4 _ _ _ _ _ _ _ _ _ _ _ _
   | exact saturateref41_reach.mono _ _ _ _
   | exact LeO.none _
   | refine LeO.ite ?_ ?_
   | refine LeO.bind ?_ (fun _ => ?_)
  ·intro y0 y1 y2 y3 y4 y5 y6 y7 y8 y9 y10 y11
   unfold saturateref41_next.j2
   repeat' first
   | (with_reducible exact ih0 _ _ _ _)
   | (with_reducible exact ih1 _ _ _ _ _ _ _ _)
   | (with_reducible exact ih2 _ _ _ _ _ _ _ _ _ _ _ _)
   | (with_reducible exact ih3 _ _ _ _ _ _ _ _ _ _ _)
   | (with_reducible exact ih4 _ _ _ _ _ _ _ _ _ _ _ _)
   | (with_reducible exact saturateref41_reach.mono _ _ _ _)
   | (with_reducible exact LeO.refl _)
   | (with_reducible exact LeO.none _)
   | (with_reducible refine LeO.ite ?_ ?_)
   | (with_reducible refine LeO.bind ?_ (fun _ => ?_))
   | exact ih0 _ _ _ _
   | exact ih1 _ _ _ _ _ _ _ _
   | exact ih2 _ _ _ _ _ _ _ _ _ _ _ _
   | exact ih3 _ _ _ _ _ _ _ _ _ _ _
   | exact ih4 _ _ _ _ _ _ _ _ _ _ _ _
   | exact saturateref41_reach.mono _ _ _ _
   | exact LeO.none _
   | refine LeO.ite ?_ ?_
   | refine LeO.bind ?_ (fun _ => ?_)
  ·intro y0 y1 y2 y3 y4 y5 y6 y7 y8 y9 y10
   unfold saturateref41_next.j3
   repeat' first
   | (with_reducible exact ih0 _ _ _ _)
   | (with_reducible exact ih1 _ _ _ _ _ _ _ _)
   | (with_reducible exact ih2 _ _ _ _ _ _ _ _ _ _ _ _)
   | (with_reducible exact ih3 _ _ _ _ _ _ _ _ _ _ _)
   | (with_reducible exact ih4 _ _ _ _ _ _ _ _ _ _ _ _)
   | (with_reducible exact saturateref41_reach.mono _ _ _ _)
   | (with_reducible exact LeO.refl _)
   | (with_reducible exact LeO.none _)
   | (with_reducible refine LeO.ite ?_ ?_)
   | (with_reducible refine LeO.bind ?_ (fun _ => ?_))
   | exact ih0 _ _ _ _
   | exact ih1 _ _ _ _ _ _ _ _
   | exact ih2 _ _ _ _ _ _ _ _ _ _ _ _
   | exact ih3 _ _ _ _ _ _ _ _ _ _ _
   | exact ih4 _ _ _ _ _ _ _ _ _ _ _ _
   | exact saturateref41_reach.mono _ _ _ _
   | exact LeO.none _
   | refine LeO.ite ?_ ?_
   | refine LeO.bind ?_ (fun _ => ?_)
  ·intro y0 y1 y2 y3 y4 y5 y6 y7 y8 y9 y10 y11
   unfold saturateref41_next.j4
   repeat' first
   | (with_reducible exact ih0 _ _ _ _)
   | (with_reducible exact ih1 _ _ _ _ _ _ _ _)
   | (with_reducible exact ih2 _ _ _ _ _ _ _ _ _ _ _ _)
   | (with_reducible exact ih3 _ _ _ _ _ _ _ _ _ _ _)
   | (with_reducible exact ih4 _ _ _ _ _ _ _ _ _ _ _ _)
   | (with_reducible exact saturateref41_reach.mono _ _ _ _)
   | (with_reducible exact LeO.refl _)
   | (with_reducible exact LeO.none _)
   | (with_reducible refine LeO.ite ?_ ?_)
   | (with_reducible refine LeO.bind ?_ (fun _ => ?_))
   | exact ih0 _ _ _ _
   | exact ih1 _ _ _ _ _ _ _ _
   | exact ih2 _ _ _ _ _ _ _ _ _ _ _ _
   | exact ih3 _ _ _ _ _ _ _ _ _ _ _
   | exact ih4 _ _ _ _ _ _ _ _ _ _ _ _
   | exact saturateref41_reach.mono _ _ _ _
   | exact LeO.none _
   | refine LeO.ite ?_ ?_
   | refine LeO.bind ?_ (fun _ => ?_)
theorem saturateref41_next.mono : ∀ a0 a1 a2 k, LeO (saturateref41_next.f k a0 a1 a2) (saturateref41_next.f (k + 1) a0 a1 a2) := by
 intro a0 a1 a2 k
 obtain ⟨ih0, ih1, ih2, ih3, ih4⟩ := saturateref41_next.mono_l k
 unfold saturateref41_next.f
 repeat' first
   | (with_reducible exact ih0 _ _ _ _)
   | (with_reducible exact ih1 _ _ _ _ _ _ _ _)
   | (with_reducible exact ih2 _ _ _ _ _ _ _ _ _ _ _ _)
   | (with_reducible exact ih3 _ _ _ _ _ _ _ _ _ _ _)
   | (with_reducible exact ih4 _ _ _ _ _ _ _ _ _ _ _ _)
   | (with_reducible exact saturateref41_reach.mono _ _ _ _)
   | (with_reducible exact LeO.refl _)
   | (with_reducible exact LeO.none _)
   | (with_reducible refine LeO.ite ?_ ?_)
   | (with_reducible refine LeO.bind ?_ (fun _ => ?_))
   | exact ih0 _ _ _ _
   | exact ih1 _ _ _ _ _ _ _ _
   | exact ih2 _ _ _ _ _ _ _ _ _ _ _ _
   | exact ih3 _ _ _ _ _ _ _ _ _ _ _
   | exact ih4 _ _ _ _ _ _ _ _ _ _ _ _
   | exact saturateref41_reach.mono _ _ _ _
   | exact LeO.none _
   | refine LeO.ite ?_ ?_
   | refine LeO.bind ?_ (fun _ => ?_)
set_option maxHeartbeats 8000000 in
set_option maxRecDepth 100000 in
theorem saturateref41_next.calls (k : Nat) (A0_0 : Option Addr) (c0_0 : Nat) (l0_0 : List Int) (A0_1 : Option Addr) (c0_1 : Nat) (l0_1 : List (S43)) (P1_ : Nat → Prop) (A1 : Option Addr) (c1 : Nat) (l1 : List Int) (r1 : List Int) (r2 : Bool) (r3 : Bool) (w : World) (hr0_0 : Kd.C (Kd.int .i64) w A0_0 l0_0.length l0_0) (hc0_0 : l0_0.length ≤ c0_0) (hr0_1 : Kd.C k43 w A0_1 l0_1.length l0_1) (hc0_1 : l0_1.length ≤ c0_1) (hs1 : Kd.V (Kd.int .i64) 3 w w.heap.size (fun k_ => P1_ k_) (.slice A1 l1.length c1) l1) (h : saturateref41_next.f k l0_0 l0_1 l1 = some (r1, r2, r3)) :
  Calls Try.prog 31 #[.agg #[.slice A0_0 l0_0.length c0_0, .slice A0_1 l0_1.length c0_1], .slice A1 l1.length c1] w fun e w' => ∃ v0_ : Value, e = .returned (.tuple #[v0_, .bool r2, .bool r3]) ∧ Kd.V (Kd.int .i64) 3 w' w.heap.size (fun k_ => (P1_ k_ ∨ w.heap.size ≤ k_)) v0_ r1 ∧ Below w.heap.size w w' := by
 have hu25 := Try.underlying25
 have hu43 := Try.underlying43
 have hu45 := Try.underlying45
 have HR0_0 := Aside0.mk hr0_0
 have HC0_0 := Aside0.mk hc0_0
 clear hr0_0 hc0_0
 have HR0_1 := Aside0.mk hr0_1
 have HC0_1 := Aside0.mk hc0_1
 clear hr0_1 hc0_1
 have HO1 := Aside0.mk (show Kd.V (Kd.int .i64) 3 w w.heap.size (fun k_ => (P1_ k_ ∨ w.heap.size ≤ k_)) (.slice A1 l1.length c1) l1 from Kd.V_mono hs1 (fun k_ hk => .inl hk))
 have HB := Aside0.mk (Below.refl w.heap.size w)
 have H : (saturateref41_next.l0 k l1 0 l0_0 l0_1) = some (r1, r2, r3) := h
 clear h
 have H' := Aside0.mk H
 clear H
 go_enter Try.func31, Try.ntmps31
 go_wp2_with (first | ((with_reducible refine gate_dst (N := 2) rfl ?_); refine box_event ?hg (N := 2) ?hd (cs := #[.slice A0_0 l0_0.length c0_0, .slice A0_1 l0_1.length c0_1]) (t := 25) ?hr ?_; (case hd => rfl); (case hg => rfl); (case hr => first | (go_simp; done) | (go_simp; rfl)); intro gb269 hg w3 hbox hb; have n0_ := Aside0.mk (Kd.V_below (Kd.V_elderB (by (with_reducible repeat (first | apply Kd.V_alloc | apply Kd.V_drewN | apply Kd.V_drew)); exact HO1.out) gb269 (Nat.le_of_eq hg.symm)) hb); have n1_ := Aside0.mk (below_step (by repeat (first | (with_reducible first | exact HB.out | apply below_alloc | apply pw_below_drewN | apply below_drew1) | exact HB.out)) hb); have n2_ := Aside0.mk (hbox); have n3_ := Aside0.mk ((by rw [hg]; exact (below_size (by repeat (first | (with_reducible first | exact HB.out | apply below_alloc | apply pw_below_drewN | apply below_drew1) | exact HB.out))) : w.heap.size ≤ gb269)); have n4_ := Aside0.mk ((by rw [hg]; exact (below_size (by repeat (first | (with_reducible first | exact HB.out | apply below_alloc | apply pw_below_drewN | apply below_drew1) | exact HB.out))) : w.heap.size ≤ gb269)); clear HO1; clear HB; have HO1 := n0_; have HB := n1_; have BK269 := n2_; have GW269 := n3_; have GE269 := n4_; clear n0_ n1_ n2_ n3_ n4_; clear hb hbox hg))
 go_loopg [7] k (fun kq v7 w' => ∃ (x1_1 : List Int) (x7_1 : Int), v7 = .int .i64 x7_1 ∧ Aside0 (saturateref41_next.l0 kq x1_1 x7_1 l0_0 l0_1 = some (r1, r2, r3)) ∧ Aside0 (kq ≤ k) ∧ Aside0 (Kd.V (Kd.int .i64) 3 w' w.heap.size (fun k_ => (P1_ k_ ∨ w.heap.size ≤ k_) ∧ k_ ≠ gb269) (.slice A1 l1.length c1) x1_1) ∧ Aside0 (w'.heap[gb269]? = some (.cells #[(.slice A0_0 l0_0.length c0_0), (.slice A0_1 l0_1.length c0_1)] 25 (0, 0))) ∧ Aside0 (Below w.heap.size w w'))
 case atStart => exact ⟨(l1), (0), (by first | rfl | (simp; done) | (simp [*]; done)), H', ⟨Nat.le_refl _⟩, ⟨by (with_reducible repeat (first | apply Kd.V_alloc | apply Kd.V_drewN | apply Kd.V_drew)); exact HO1.out⟩, ⟨by (with_reducible repeat (first | refine blk_drewN ?_ _ | refine blk_drew ?_ | refine blk_alloc ?_ _)); exact BK269.out⟩, ⟨by repeat (first | (with_reducible first | exact HB.out | apply below_alloc | apply pw_below_drewN | apply below_drew1 | refine below_set ?_ GE269.out) | exact HB.out)⟩⟩
 case round =>
  clear H'
  try clear c1
  try clear p2
  try clear c3
  obtain ⟨x1_1, x7_1, rfl, HA, HK1, HO_1, BK269, HB⟩ := hrel
  have hl1_1 := (Kd.V_reads' HO_1.out).1
  rw [hl1_1] at HO_1
  (try simp only [hl1_1])
  (try simp only [hl1_1] at BK269)
  cases gk with
  | zero => exact absurd HA.out (by simp [saturateref41_next.l0])
  | succ k1 =>
   have H := HA.out
   clear HA
   simp only [saturateref41_next.l0] at H
   by_cases c4 : x7_1 < (l0_1.length : Int)
   ·rw [if_pos c4] at H
    have c4b0 : decide (x7_1 < (l0_1.length : Int)) = true := decide_eq_true c4
    (try simp only [hl1_1] at c4b0)
    clear c4
    by_cases c5 : 0 ≤ x7_1
    ·rw [if_pos c5] at H
     have c5b0 : decide (0 ≤ x7_1) = true := decide_eq_true c5
     (try simp only [hl1_1] at c5b0)
     clear c5
     replace H := Option.bind_eq_some_iff.mp H
     obtain ⟨t272, A60, H⟩ := H
     replace H : (if t272 < ((rd_T43 l0_1 x7_1).f1) then (some (x1_1, false, false)) else (saturateref41_next.l1 k1 x1_1 x7_1 t272 0 l0_0 l0_1 ((rd_T43 l0_1 x7_1).f0) ((rd_T43 l0_1 x7_1).f1))) = some (r1, r2, r3) := H
     have A6 := Aside0.mk A60
     clear A60
     by_cases c7 : t272 < ((rd_T43 l0_1 x7_1).f1)
     ·rw [if_pos c7] at H
      have c7b0 : decide (t272 < ((rd_T43 l0_1 x7_1).f1)) = true := decide_eq_true c7
      (try simp only [hl1_1] at c7b0)
      clear c7
      simp only [Option.some.injEq, Prod.mk.injEq] at H
      obtain ⟨rfl, rfl, rfl⟩ := H
      have hcz8_0 : wr.cell? ⟨gb269, 0, none⟩ = some (.slice A0_0 l0_0.length c0_0) := (blk_cell BK269.out 0).trans rfl
      have hcz8_1 : wr.cell? ⟨gb269, 1, none⟩ = some (.slice A0_1 l0_1.length c0_1) := (blk_cell BK269.out 1).trans rfl
      have hfz8_0 := blk_frozen BK269.out 0
      have hfz8_1 := blk_frozen BK269.out 1
      have p270 : 0 ≤ (x7_1 : Int) := of_decide_eq_true (by first | (with_reducible assumption) | assumption)
      have q270 : x7_1 < (l0_1.length : Int) := of_decide_eq_true (by first | (with_reducible assumption) | assumption)
      obtain ⟨ad270, A270_0, c270_0, e270, hx270_0, hx270_1, hl270_0, hi270_0⟩ := at_T43 HR0_1.out x7_1 p270 q270
      cases e270
      replace hx270_0 := (HB.out.cell (World.block_lt_of_cell? w _ hx270_0)).trans hx270_0
      replace hx270_1 := (HB.out.cell (World.block_lt_of_cell? w _ hx270_1)).trans hx270_1
      have HR270_0 := Aside0.mk hi270_0
      have HC270_0 := Aside0.mk hl270_0
      clear hi270_0 hl270_0
      replace p270 := eq_true p270
      replace q270 := eq_true q270
      go_wp2_with (first | ((with_reducible refine gate_dst (N := 8) rfl ?_); refine box_event ?hg (N := 8) ?hd (cs := #[.slice none 0 0, .int .i64 0]) (t := 43) ?hr ?_; (case hd => rfl); (case hg => rfl); (case hr => first | (go_simp; done) | (go_simp; rfl)); intro gb271 hg w9 hbox hb; have n0_ := Aside0.mk (Kd.V_below (Kd.V_elderB (by (with_reducible repeat (first | apply Kd.V_alloc | apply Kd.V_drewN | apply Kd.V_drew)); exact HO_1.out) gb271 (Nat.le_of_eq hg.symm)) hb); have n1_ := Aside0.mk (blk_below (g := gb269) (o := .cells #[.slice A0_0 l0_0.length c0_0, .slice (some ad270) l0_1.length c0_1] 25 (0, 0)) (by (with_reducible repeat (first | refine blk_drewN ?_ _ | refine blk_drew ?_ | refine blk_alloc ?_ _)); exact BK269.out) hb); have n2_ := Aside0.mk (below_step (by repeat (first | (with_reducible first | exact HB.out | apply below_alloc | apply pw_below_drewN | apply below_drew1 | refine below_set ?_ GE269.out) | exact HB.out)) hb); have n3_ := Aside0.mk (hbox); have n4_ := Aside0.mk ((by rw [hg]; exact (below_size (by repeat (first | (with_reducible first | exact HB.out | apply below_alloc | apply pw_below_drewN | apply below_drew1 | refine below_set ?_ GE269.out) | exact HB.out))) : w.heap.size ≤ gb271)); have n5_ := Aside0.mk ((by rw [hg]; exact (below_size (by repeat (first | (with_reducible first | exact HB.out | apply below_alloc | apply pw_below_drewN | apply below_drew1 | refine below_set ?_ GE269.out) | exact HB.out))) : w.heap.size ≤ gb271)); have n6_ := Aside0.mk ((by rw [hg]; exact Nat.ne_of_lt (blk_lt (g := gb269) (o := .cells #[.slice A0_0 l0_0.length c0_0, .slice (some ad270) l0_1.length c0_1] 25 (0, 0)) (by (with_reducible repeat (first | refine blk_drewN ?_ _ | refine blk_drew ?_ | refine blk_alloc ?_ _)); exact BK269.out)) : gb269 ≠ gb271)); have n7_ := Aside0.mk ((by rw [hg]; exact Nat.ne_of_gt (blk_lt (g := gb269) (o := .cells #[.slice A0_0 l0_0.length c0_0, .slice (some ad270) l0_1.length c0_1] 25 (0, 0)) (by (with_reducible repeat (first | refine blk_drewN ?_ _ | refine blk_drew ?_ | refine blk_alloc ?_ _)); exact BK269.out)) : gb271 ≠ gb269)); clear HO_1; clear BK269; clear HB; have HO_1 := n0_; have BK269 := n1_; have HB := n2_; have BK271 := n3_; have GW271 := n4_; have GE271 := n5_; have NB269_271 := n6_; have NB271_269 := n7_; clear n0_ n1_ n2_ n3_ n4_ n5_ n6_ n7_; clear hb hbox hg; have hnb10 := NB271_269.out; have hnc10 := NB269_271.out; have hcz11_0 : w9.cell? ⟨gb271, 0, none⟩ = some (.slice none 0 0) := (blk_cell BK271.out 0).trans rfl; have hcz11_1 : w9.cell? ⟨gb271, 1, none⟩ = some (.int .i64 0) := (blk_cell BK271.out 1).trans rfl; have hfz11_0 := blk_frozen BK271.out 0; have hfz11_1 := blk_frozen BK271.out 1) | ((with_reducible refine gate_callee (f := 39) rfl ?_); refine goesL_ (some 28) rfl rfl Try.func39 (by kernel_rfl) rfl #[.agg #[.slice A270_0 ((rd_T43 l0_1 x7_1).f0).length c270_0, .int .i64 ((rd_T43 l0_1 x7_1).f1)], .slice A1 x1_1.length c1] rfl (by (try simp only [List.map_toArray, List.map_cons, List.map_nil]); first | done | rfl | (simp only [List.length_drop, List.length_take]; rfl)) ?_; (with_reducible refine (saturateref41_reach.calls k1 _ _ ((rd_T43 l0_1 x7_1).f0) ((rd_T43 l0_1 x7_1).f1) _ _ x1_1 t272 _ ?side1 ?side2 ?side3 ?side4 A6.out).mono ?_); (case side1 => exact Kd.C_below HR270_0.out (by repeat (first | (with_reducible first | exact HB.out | apply below_alloc | apply pw_below_drewN | apply below_drew1 | refine below_set ?_ GE269.out | refine below_set ?_ GE271.out) | exact HB.out))); (case side2 => exact HC270_0.out); (case side3 => refine (Kd.V_reads' (e := 3) (base := w.heap.size) (ok := fun k_ => (((P1_ k_ ∨ w.heap.size ≤ k_) ∧ k_ ≠ gb269) ∧ k_ ≠ gb271)) (n := x1_1.length) (c := c1) ?_).2.2; exact (by (with_reducible repeat (first | apply Kd.V_alloc | apply Kd.V_drewN | apply Kd.V_drew)); exact (Kd.V_mono (Kd.V_far (p := ⟨gb271, 1, none⟩) (Kd.V_far (p := ⟨gb271, 0, none⟩) (Kd.V_mono HO_1.out (fun k_ hk => (⟨hk, hk.2⟩ : _ ∧ k_ ≠ gb271))) (fun _ hk => hk.2) (.slice A270_0 ((rd_T43 l0_1 x7_1).f0).length c270_0)) (fun _ hk => hk.2) (.int .i64 ((rd_T43 l0_1 x7_1).f1))) (fun _ h_ => h_.1)))); (case side4 => exact (Kd.V_reads' HO_1.out).2.1); rintro e w12 ⟨rfl, hb⟩; refine ⟨_, rfl, ?_⟩; have n0_ := Aside0.mk (Kd.V_below (by (with_reducible repeat (first | apply Kd.V_alloc | apply Kd.V_drewN | apply Kd.V_drew)); exact (Kd.V_mono (Kd.V_far (p := ⟨gb271, 1, none⟩) (Kd.V_far (p := ⟨gb271, 0, none⟩) (Kd.V_mono HO_1.out (fun k_ hk => (⟨hk, hk.2⟩ : _ ∧ k_ ≠ gb271))) (fun _ hk => hk.2) (.slice A270_0 ((rd_T43 l0_1 x7_1).f0).length c270_0)) (fun _ hk => hk.2) (.int .i64 ((rd_T43 l0_1 x7_1).f1))) (fun _ h_ => h_.1))) hb); have n1_ := Aside0.mk (blk_below (g := gb269) (o := .cells #[.slice A0_0 l0_0.length c0_0, .slice (some ad270) l0_1.length c0_1] 25 (0, 0)) (by (with_reducible repeat (first | refine blk_drewN ?_ _ | refine blk_drew ?_ | refine blk_alloc ?_ _)); refine blk_far ?_ NB269_271.out _; (with_reducible repeat (first | refine blk_drewN ?_ _ | refine blk_drew ?_ | refine blk_alloc ?_ _)); refine blk_far ?_ NB269_271.out _; (with_reducible repeat (first | refine blk_drewN ?_ _ | refine blk_drew ?_ | refine blk_alloc ?_ _)); exact BK269.out) hb); have n2_ := Aside0.mk (blk_below (g := gb271) (o := .cells #[.slice A270_0 ((rd_T43 l0_1 x7_1).f0).length c270_0, .int .i64 ((rd_T43 l0_1 x7_1).f1)] 43 (0, 0)) (by (with_reducible repeat (first | refine blk_drewN ?_ _ | refine blk_drew ?_ | refine blk_alloc ?_ _)); refine blk_put (cs := #[.slice A270_0 ((rd_T43 l0_1 x7_1).f0).length c270_0, .int .i64 0]) ?_ 1 _ rfl; (with_reducible repeat (first | refine blk_drewN ?_ _ | refine blk_drew ?_ | refine blk_alloc ?_ _)); refine blk_put (cs := #[.slice none 0 0, .int .i64 0]) ?_ 0 _ rfl; (with_reducible repeat (first | refine blk_drewN ?_ _ | refine blk_drew ?_ | refine blk_alloc ?_ _)); exact BK271.out) hb); have n3_ := Aside0.mk (below_step (by repeat (first | (with_reducible first | exact HB.out | apply below_alloc | apply pw_below_drewN | apply below_drew1 | refine below_set ?_ GE269.out | refine below_set ?_ GE271.out) | exact HB.out)) hb); clear HO_1; clear BK269; clear BK271; clear HB; have HO_1 := n0_; have BK269 := n1_; have BK271 := n2_; have HB := n3_; clear n0_ n1_ n2_ n3_; (try clear hb); (try clear hb2); (try clear hk); (try clear hi); have hcz13_0 : w12.cell? ⟨gb271, 0, none⟩ = some (.slice A270_0 ((rd_T43 l0_1 x7_1).f0).length c270_0) := (blk_cell BK271.out 0).trans rfl; have hcz13_1 : w12.cell? ⟨gb271, 1, none⟩ = some (.int .i64 ((rd_T43 l0_1 x7_1).f1)) := (blk_cell BK271.out 1).trans rfl; have hfz13_0 := blk_frozen BK271.out 0; have hfz13_1 := blk_frozen BK271.out 1))
      go_ret3
      exact ⟨_, by first | rfl | (simp [errW_none, errW_some] <;> rfl) | (simp [*, errW_none, errW_some] <;> rfl), by (with_reducible repeat (first | apply Kd.V_alloc | apply Kd.V_drewN | apply Kd.V_drew)); exact Kd.V_mono HO_1.out (fun _ hk => hk.1.1), by repeat (first | (with_reducible first | exact HB.out | apply below_alloc | apply pw_below_drewN | apply below_drew1 | refine below_set ?_ GE269.out | refine below_set ?_ GE271.out) | exact HB.out)⟩
     ·rw [if_neg c7] at H
      have c7b0 : decide (t272 < ((rd_T43 l0_1 x7_1).f1)) = false := decide_eq_false c7
      (try simp only [hl1_1] at c7b0)
      clear c7
      have H' := Aside0.mk H
      clear H
      have hcz14_0 : wr.cell? ⟨gb269, 0, none⟩ = some (.slice A0_0 l0_0.length c0_0) := (blk_cell BK269.out 0).trans rfl
      have hcz14_1 : wr.cell? ⟨gb269, 1, none⟩ = some (.slice A0_1 l0_1.length c0_1) := (blk_cell BK269.out 1).trans rfl
      have hfz14_0 := blk_frozen BK269.out 0
      have hfz14_1 := blk_frozen BK269.out 1
      have p270 : 0 ≤ (x7_1 : Int) := of_decide_eq_true (by first | (with_reducible assumption) | assumption)
      have q270 : x7_1 < (l0_1.length : Int) := of_decide_eq_true (by first | (with_reducible assumption) | assumption)
      obtain ⟨ad270, A270_0, c270_0, e270, hx270_0, hx270_1, hl270_0, hi270_0⟩ := at_T43 HR0_1.out x7_1 p270 q270
      cases e270
      replace hx270_0 := (HB.out.cell (World.block_lt_of_cell? w _ hx270_0)).trans hx270_0
      replace hx270_1 := (HB.out.cell (World.block_lt_of_cell? w _ hx270_1)).trans hx270_1
      have HR270_0 := Aside0.mk hi270_0
      have HC270_0 := Aside0.mk hl270_0
      clear hi270_0 hl270_0
      replace p270 := eq_true p270
      replace q270 := eq_true q270
      go_wp2_with (first | ((with_reducible refine gate_dst (N := 8) rfl ?_); refine box_event ?hg (N := 8) ?hd (cs := #[.slice none 0 0, .int .i64 0]) (t := 43) ?hr ?_; (case hd => rfl); (case hg => rfl); (case hr => first | (go_simp; done) | (go_simp; rfl)); intro gb271 hg w15 hbox hb; have n0_ := Aside0.mk (Kd.V_below (Kd.V_elderB (by (with_reducible repeat (first | apply Kd.V_alloc | apply Kd.V_drewN | apply Kd.V_drew)); exact HO_1.out) gb271 (Nat.le_of_eq hg.symm)) hb); have n1_ := Aside0.mk (blk_below (g := gb269) (o := .cells #[.slice A0_0 l0_0.length c0_0, .slice (some ad270) l0_1.length c0_1] 25 (0, 0)) (by (with_reducible repeat (first | refine blk_drewN ?_ _ | refine blk_drew ?_ | refine blk_alloc ?_ _)); exact BK269.out) hb); have n2_ := Aside0.mk (below_step (by repeat (first | (with_reducible first | exact HB.out | apply below_alloc | apply pw_below_drewN | apply below_drew1 | refine below_set ?_ GE269.out) | exact HB.out)) hb); have n3_ := Aside0.mk (hbox); have n4_ := Aside0.mk ((by rw [hg]; exact (below_size (by repeat (first | (with_reducible first | exact HB.out | apply below_alloc | apply pw_below_drewN | apply below_drew1 | refine below_set ?_ GE269.out) | exact HB.out))) : w.heap.size ≤ gb271)); have n5_ := Aside0.mk ((by rw [hg]; exact (below_size (by repeat (first | (with_reducible first | exact HB.out | apply below_alloc | apply pw_below_drewN | apply below_drew1 | refine below_set ?_ GE269.out) | exact HB.out))) : w.heap.size ≤ gb271)); have n6_ := Aside0.mk ((by rw [hg]; exact Nat.ne_of_lt (blk_lt (g := gb269) (o := .cells #[.slice A0_0 l0_0.length c0_0, .slice (some ad270) l0_1.length c0_1] 25 (0, 0)) (by (with_reducible repeat (first | refine blk_drewN ?_ _ | refine blk_drew ?_ | refine blk_alloc ?_ _)); exact BK269.out)) : gb269 ≠ gb271)); have n7_ := Aside0.mk ((by rw [hg]; exact Nat.ne_of_gt (blk_lt (g := gb269) (o := .cells #[.slice A0_0 l0_0.length c0_0, .slice (some ad270) l0_1.length c0_1] 25 (0, 0)) (by (with_reducible repeat (first | refine blk_drewN ?_ _ | refine blk_drew ?_ | refine blk_alloc ?_ _)); exact BK269.out)) : gb271 ≠ gb269)); clear HO_1; clear BK269; clear HB; have HO_1 := n0_; have BK269 := n1_; have HB := n2_; have BK271 := n3_; have GW271 := n4_; have GE271 := n5_; have NB269_271 := n6_; have NB271_269 := n7_; clear n0_ n1_ n2_ n3_ n4_ n5_ n6_ n7_; clear hb hbox hg; have hnb16 := NB271_269.out; have hnc16 := NB269_271.out; have hcz17_0 : w15.cell? ⟨gb271, 0, none⟩ = some (.slice none 0 0) := (blk_cell BK271.out 0).trans rfl; have hcz17_1 : w15.cell? ⟨gb271, 1, none⟩ = some (.int .i64 0) := (blk_cell BK271.out 1).trans rfl; have hfz17_0 := blk_frozen BK271.out 0; have hfz17_1 := blk_frozen BK271.out 1) | ((with_reducible refine gate_callee (f := 39) rfl ?_); refine goesL_ (some 28) rfl rfl Try.func39 (by kernel_rfl) rfl #[.agg #[.slice A270_0 ((rd_T43 l0_1 x7_1).f0).length c270_0, .int .i64 ((rd_T43 l0_1 x7_1).f1)], .slice A1 x1_1.length c1] rfl (by (try simp only [List.map_toArray, List.map_cons, List.map_nil]); first | done | rfl | (simp only [List.length_drop, List.length_take]; rfl)) ?_; (with_reducible refine (saturateref41_reach.calls k1 _ _ ((rd_T43 l0_1 x7_1).f0) ((rd_T43 l0_1 x7_1).f1) _ _ x1_1 t272 _ ?side1 ?side2 ?side3 ?side4 A6.out).mono ?_); (case side1 => exact Kd.C_below HR270_0.out (by repeat (first | (with_reducible first | exact HB.out | apply below_alloc | apply pw_below_drewN | apply below_drew1 | refine below_set ?_ GE269.out | refine below_set ?_ GE271.out) | exact HB.out))); (case side2 => exact HC270_0.out); (case side3 => refine (Kd.V_reads' (e := 3) (base := w.heap.size) (ok := fun k_ => (((P1_ k_ ∨ w.heap.size ≤ k_) ∧ k_ ≠ gb269) ∧ k_ ≠ gb271)) (n := x1_1.length) (c := c1) ?_).2.2; exact (by (with_reducible repeat (first | apply Kd.V_alloc | apply Kd.V_drewN | apply Kd.V_drew)); exact (Kd.V_mono (Kd.V_far (p := ⟨gb271, 1, none⟩) (Kd.V_far (p := ⟨gb271, 0, none⟩) (Kd.V_mono HO_1.out (fun k_ hk => (⟨hk, hk.2⟩ : _ ∧ k_ ≠ gb271))) (fun _ hk => hk.2) (.slice A270_0 ((rd_T43 l0_1 x7_1).f0).length c270_0)) (fun _ hk => hk.2) (.int .i64 ((rd_T43 l0_1 x7_1).f1))) (fun _ h_ => h_.1)))); (case side4 => exact (Kd.V_reads' HO_1.out).2.1); rintro e w18 ⟨rfl, hb⟩; refine ⟨_, rfl, ?_⟩; have n0_ := Aside0.mk (Kd.V_below (by (with_reducible repeat (first | apply Kd.V_alloc | apply Kd.V_drewN | apply Kd.V_drew)); exact (Kd.V_mono (Kd.V_far (p := ⟨gb271, 1, none⟩) (Kd.V_far (p := ⟨gb271, 0, none⟩) (Kd.V_mono HO_1.out (fun k_ hk => (⟨hk, hk.2⟩ : _ ∧ k_ ≠ gb271))) (fun _ hk => hk.2) (.slice A270_0 ((rd_T43 l0_1 x7_1).f0).length c270_0)) (fun _ hk => hk.2) (.int .i64 ((rd_T43 l0_1 x7_1).f1))) (fun _ h_ => h_.1))) hb); have n1_ := Aside0.mk (blk_below (g := gb269) (o := .cells #[.slice A0_0 l0_0.length c0_0, .slice (some ad270) l0_1.length c0_1] 25 (0, 0)) (by (with_reducible repeat (first | refine blk_drewN ?_ _ | refine blk_drew ?_ | refine blk_alloc ?_ _)); refine blk_far ?_ NB269_271.out _; (with_reducible repeat (first | refine blk_drewN ?_ _ | refine blk_drew ?_ | refine blk_alloc ?_ _)); refine blk_far ?_ NB269_271.out _; (with_reducible repeat (first | refine blk_drewN ?_ _ | refine blk_drew ?_ | refine blk_alloc ?_ _)); exact BK269.out) hb); have n2_ := Aside0.mk (blk_below (g := gb271) (o := .cells #[.slice A270_0 ((rd_T43 l0_1 x7_1).f0).length c270_0, .int .i64 ((rd_T43 l0_1 x7_1).f1)] 43 (0, 0)) (by (with_reducible repeat (first | refine blk_drewN ?_ _ | refine blk_drew ?_ | refine blk_alloc ?_ _)); refine blk_put (cs := #[.slice A270_0 ((rd_T43 l0_1 x7_1).f0).length c270_0, .int .i64 0]) ?_ 1 _ rfl; (with_reducible repeat (first | refine blk_drewN ?_ _ | refine blk_drew ?_ | refine blk_alloc ?_ _)); refine blk_put (cs := #[.slice none 0 0, .int .i64 0]) ?_ 0 _ rfl; (with_reducible repeat (first | refine blk_drewN ?_ _ | refine blk_drew ?_ | refine blk_alloc ?_ _)); exact BK271.out) hb); have n3_ := Aside0.mk (below_step (by repeat (first | (with_reducible first | exact HB.out | apply below_alloc | apply pw_below_drewN | apply below_drew1 | refine below_set ?_ GE269.out | refine below_set ?_ GE271.out) | exact HB.out)) hb); clear HO_1; clear BK269; clear BK271; clear HB; have HO_1 := n0_; have BK269 := n1_; have BK271 := n2_; have HB := n3_; clear n0_ n1_ n2_ n3_; (try clear hb); (try clear hb2); (try clear hk); (try clear hi); have hcz19_0 : w18.cell? ⟨gb271, 0, none⟩ = some (.slice A270_0 ((rd_T43 l0_1 x7_1).f0).length c270_0) := (blk_cell BK271.out 0).trans rfl; have hcz19_1 : w18.cell? ⟨gb271, 1, none⟩ = some (.int .i64 ((rd_T43 l0_1 x7_1).f1)) := (blk_cell BK271.out 1).trans rfl; have hfz19_0 := blk_frozen BK271.out 0; have hfz19_1 := blk_frozen BK271.out 1))
      go_loopg [10] k1 (fun kq v10 w' => ∃ (x1_2 : List Int) (x10_2 : Int), v10 = .int .i64 x10_2 ∧ Aside0 (saturateref41_next.l1 kq x1_2 x7_1 t272 x10_2 l0_0 l0_1 ((rd_T43 l0_1 x7_1).f0) ((rd_T43 l0_1 x7_1).f1) = some (r1, r2, r3)) ∧ Aside0 (kq ≤ k1) ∧ Aside0 (Kd.V (Kd.int .i64) 3 w' w.heap.size (fun k_ => (P1_ k_ ∨ w.heap.size ≤ k_) ∧ k_ ≠ gb269 ∧ k_ ≠ gb271) (.slice A1 x1_1.length c1) x1_2) ∧ Aside0 (w'.heap[gb269]? = some (.cells #[(.slice A0_0 l0_0.length c0_0), (.slice (some ad270) l0_1.length c0_1)] 25 (0, 0))) ∧ Aside0 (w'.heap[gb271]? = some (.cells #[(.slice A270_0 ((rd_T43 l0_1 x7_1).f0).length c270_0), .int .i64 ((rd_T43 l0_1 x7_1).f1)] 43 (0, 0))) ∧ Aside0 (Below w.heap.size w w'))
      case atStart => exact ⟨(x1_1), (0), (by first | rfl | (simp; done) | (simp [*]; done)), H', ⟨Nat.le_refl _⟩, ⟨by (try simp only [hl1_1]); (with_reducible repeat (first | apply Kd.V_alloc | apply Kd.V_drewN | apply Kd.V_drew)); exact Kd.V_mono HO_1.out (fun _ hk => ⟨hk.1.1, ⟨hk.1.2, hk.2⟩⟩)⟩, ⟨by (try simp only [hl1_1]); (with_reducible repeat (first | refine blk_drewN ?_ _ | refine blk_drew ?_ | refine blk_alloc ?_ _)); exact BK269.out⟩, ⟨by (try simp only [hl1_1]); (with_reducible repeat (first | refine blk_drewN ?_ _ | refine blk_drew ?_ | refine blk_alloc ?_ _)); exact BK271.out⟩, ⟨by repeat (first | (with_reducible first | exact HB.out | apply below_alloc | apply pw_below_drewN | apply below_drew1 | refine below_set ?_ GE269.out | refine below_set ?_ GE271.out) | exact HB.out)⟩⟩
      case round =>
       clear H'
       try clear c1
       try clear c2
       try clear p2
       try clear q2
       try clear hx2
       try clear c3
       try clear c4
       try clear c4b0
       try clear c5
       try clear c5b0
       try clear c7
       try clear c7b0
       try clear c10
       try clear c16
       try clear hcz11_0
       try clear hcz11_1
       try clear hcz13_0
       try clear hcz13_1
       try clear hcz14_0
       try clear hcz14_1
       try clear hcz17_0
       try clear hcz17_1
       try clear hcz19_0
       try clear hcz19_1
       try clear hcz8_0
       try clear hcz8_1
       try clear hfz11_0
       try clear hfz11_1
       try clear hfz13_0
       try clear hfz13_1
       try clear hfz14_0
       try clear hfz14_1
       try clear hfz17_0
       try clear hfz17_1
       try clear hfz19_0
       try clear hfz19_1
       try clear hfz8_0
       try clear hfz8_1
       try clear hx270_0
       try clear hx270_1
       try clear p2
       try clear p270
       try clear q270
       obtain ⟨x1_2, x10_2, rfl, HA, HK2, HO_1, BK269, BK271, HB⟩ := hrel
       have hl1_2 := (Kd.V_reads' HO_1.out).1
       rw [hl1_2] at HO_1
       (try simp only [hl1_2])
       (try simp only [hl1_2] at BK269)
       (try simp only [hl1_2] at BK271)
       cases gk with
       | zero => exact absurd HA.out (by simp [saturateref41_next.l1])
       | succ k2 =>
        have H := HA.out
        clear HA
        simp only [saturateref41_next.l1] at H
        by_cases c20 : x10_2 < (((rd_T43 l0_1 x7_1).f0).length : Int)
        ·rw [if_pos c20] at H
         have c20b0 : decide (x10_2 < (((rd_T43 l0_1 x7_1).f0).length : Int)) = true := decide_eq_true c20
         (try simp only [hl1_1, hl1_2] at c20b0)
         clear c20
         by_cases c21 : 0 ≤ x10_2
         ·rw [if_pos c21] at H
          have c21b0 : decide (0 ≤ x10_2) = true := decide_eq_true c21
          (try simp only [hl1_1, hl1_2] at c21b0)
          clear c21
          by_cases c22 : 0 ≤ ((rd_T45 ((rd_T43 l0_1 x7_1).f0) x10_2).f0)
          ·rw [if_pos c22] at H
           have c22b0 : decide (0 ≤ ((rd_T45 ((rd_T43 l0_1 x7_1).f0) x10_2).f0)) = true := decide_eq_true c22
           (try simp only [hl1_1, hl1_2] at c22b0)
           clear c22
           by_cases c23 : ((rd_T45 ((rd_T43 l0_1 x7_1).f0) x10_2).f0) < (x1_2.length : Int)
           ·rw [if_pos c23] at H
            have c23b0 : decide (((rd_T45 ((rd_T43 l0_1 x7_1).f0) x10_2).f0) < (x1_2.length : Int)) = true := decide_eq_true c23
            (try simp only [hl1_1, hl1_2] at c23b0)
            clear c23
            by_cases c24 : (rd x1_2 ((rd_T45 ((rd_T43 l0_1 x7_1).f0) x10_2).f0)) = (-1)
            ·rw [if_pos c24] at H
             have c24b0 : ((rd x1_2 ((rd_T45 ((rd_T43 l0_1 x7_1).f0) x10_2).f0)) == (-1)) = true := beq_iff_eq.mpr c24
             have c24b1 : ((rd x1_2 ((rd_T45 ((rd_T43 l0_1 x7_1).f0) x10_2).f0)) != (-1)) = false := bne_eq_false_iff_eq.mpr c24
             (try simp only [hl1_1, hl1_2] at c24b0)
             (try simp only [hl1_1, hl1_2] at c24b1)
             clear c24
             have HC25 := Aside0.mk H
             clear H
             have hnb26 := NB271_269.out
             have hnc26 := NB269_271.out
             have hcz27_0 : wr.cell? ⟨gb271, 0, none⟩ = some (.slice A270_0 ((rd_T43 l0_1 x7_1).f0).length c270_0) := (blk_cell BK271.out 0).trans rfl
             have hcz27_1 : wr.cell? ⟨gb271, 1, none⟩ = some (.int .i64 ((rd_T43 l0_1 x7_1).f1)) := (blk_cell BK271.out 1).trans rfl
             have hfz27_0 := blk_frozen BK271.out 0
             have hfz27_1 := blk_frozen BK271.out 1
             have p273 : 0 ≤ (x10_2 : Int) := of_decide_eq_true (by first | (with_reducible assumption) | assumption)
             have q273 : x10_2 < (((rd_T43 l0_1 x7_1).f0).length : Int) := of_decide_eq_true (by first | (with_reducible assumption) | assumption)
             obtain ⟨ad273, e273, hx273_0, hx273_1⟩ := at_T45 HR270_0.out x10_2 p273 q273
             cases e273
             replace hx273_0 := (HB.out.cell (World.block_lt_of_cell? w _ hx273_0)).trans hx273_0
             replace hx273_1 := (HB.out.cell (World.block_lt_of_cell? w _ hx273_1)).trans hx273_1
             replace p273 := eq_true p273
             replace q273 := eq_true q273
             go_upto_region 14 with (first | ((with_reducible refine gate_dst (N := 11) rfl ?_); refine box_event ?hg (N := 11) ?hd (cs := #[.int .i64 0, .int .i64 0]) (t := 45) ?hr ?_; (case hd => rfl); (case hg => rfl); (case hr => first | (go_simp; done) | (go_simp; rfl)); intro gb274 hg w28 hbox hb; have n0_ := Aside0.mk (Kd.V_below (Kd.V_elderB (by (with_reducible repeat (first | apply Kd.V_alloc | apply Kd.V_drewN | apply Kd.V_drew)); exact HO_1.out) gb274 (Nat.le_of_eq hg.symm)) hb); have n1_ := Aside0.mk (blk_below (g := gb269) (o := .cells #[.slice A0_0 l0_0.length c0_0, .slice (some ad270) l0_1.length c0_1] 25 (0, 0)) (by (with_reducible repeat (first | refine blk_drewN ?_ _ | refine blk_drew ?_ | refine blk_alloc ?_ _)); exact BK269.out) hb); have n2_ := Aside0.mk (blk_below (g := gb271) (o := .cells #[.slice (some ad273) ((rd_T43 l0_1 x7_1).f0).length c270_0, .int .i64 ((rd_T43 l0_1 x7_1).f1)] 43 (0, 0)) (by (with_reducible repeat (first | refine blk_drewN ?_ _ | refine blk_drew ?_ | refine blk_alloc ?_ _)); exact BK271.out) hb); have n3_ := Aside0.mk (below_step (by repeat (first | (with_reducible first | exact HB.out | apply below_alloc | apply pw_below_drewN | apply below_drew1 | refine below_set ?_ GE269.out | refine below_set ?_ GE271.out) | exact HB.out)) hb); have n4_ := Aside0.mk (hbox); have n5_ := Aside0.mk ((by rw [hg]; exact (below_size (by repeat (first | (with_reducible first | exact HB.out | apply below_alloc | apply pw_below_drewN | apply below_drew1 | refine below_set ?_ GE269.out | refine below_set ?_ GE271.out) | exact HB.out))) : w.heap.size ≤ gb274)); have n6_ := Aside0.mk ((by rw [hg]; exact (below_size (by repeat (first | (with_reducible first | exact HB.out | apply below_alloc | apply pw_below_drewN | apply below_drew1 | refine below_set ?_ GE269.out | refine below_set ?_ GE271.out) | exact HB.out))) : w.heap.size ≤ gb274)); have n7_ := Aside0.mk ((by rw [hg]; exact Nat.ne_of_lt (blk_lt (g := gb269) (o := .cells #[.slice A0_0 l0_0.length c0_0, .slice (some ad270) l0_1.length c0_1] 25 (0, 0)) (by (with_reducible repeat (first | refine blk_drewN ?_ _ | refine blk_drew ?_ | refine blk_alloc ?_ _)); exact BK269.out)) : gb269 ≠ gb274)); have n8_ := Aside0.mk ((by rw [hg]; exact Nat.ne_of_gt (blk_lt (g := gb269) (o := .cells #[.slice A0_0 l0_0.length c0_0, .slice (some ad270) l0_1.length c0_1] 25 (0, 0)) (by (with_reducible repeat (first | refine blk_drewN ?_ _ | refine blk_drew ?_ | refine blk_alloc ?_ _)); exact BK269.out)) : gb274 ≠ gb269)); have n9_ := Aside0.mk ((by rw [hg]; exact Nat.ne_of_lt (blk_lt (g := gb271) (o := .cells #[.slice (some ad273) ((rd_T43 l0_1 x7_1).f0).length c270_0, .int .i64 ((rd_T43 l0_1 x7_1).f1)] 43 (0, 0)) (by (with_reducible repeat (first | refine blk_drewN ?_ _ | refine blk_drew ?_ | refine blk_alloc ?_ _)); exact BK271.out)) : gb271 ≠ gb274)); have n10_ := Aside0.mk ((by rw [hg]; exact Nat.ne_of_gt (blk_lt (g := gb271) (o := .cells #[.slice (some ad273) ((rd_T43 l0_1 x7_1).f0).length c270_0, .int .i64 ((rd_T43 l0_1 x7_1).f1)] 43 (0, 0)) (by (with_reducible repeat (first | refine blk_drewN ?_ _ | refine blk_drew ?_ | refine blk_alloc ?_ _)); exact BK271.out)) : gb274 ≠ gb271)); clear HO_1; clear BK269; clear BK271; clear HB; have HO_1 := n0_; have BK269 := n1_; have BK271 := n2_; have HB := n3_; have BK274 := n4_; have GW274 := n5_; have GE274 := n6_; have NB269_274 := n7_; have NB274_269 := n8_; have NB271_274 := n9_; have NB274_271 := n10_; clear n0_ n1_ n2_ n3_ n4_ n5_ n6_ n7_ n8_ n9_ n10_; clear hb hbox hg; have hnb29 := NB274_269.out; have hnc29 := NB269_274.out; have hnb30 := NB274_271.out; have hnc30 := NB271_274.out; have hcz31_0 : w28.cell? ⟨gb274, 0, none⟩ = some (.int .i64 0) := (blk_cell BK274.out 0).trans rfl; have hcz31_1 : w28.cell? ⟨gb274, 1, none⟩ = some (.int .i64 0) := (blk_cell BK274.out 1).trans rfl; have hfz31_0 := blk_frozen BK274.out 0; have hfz31_1 := blk_frozen BK274.out 1; have p275 : 0 ≤ (((rd_T45 ((rd_T43 l0_1 x7_1).f0) x10_2).f0) : Int) := of_decide_eq_true (by first | (with_reducible assumption) | assumption); have q275 : ((rd_T45 ((rd_T43 l0_1 x7_1).f0) x10_2).f0) < (x1_2.length : Int) := of_decide_eq_true (by first | (with_reducible assumption) | assumption); obtain ⟨ad275, e275, hx275_0⟩ := Kd.at_int (Kd.V_reads' (Kd.V_far (p := ⟨gb274, 1, none⟩) (Kd.V_far (p := ⟨gb274, 0, none⟩) (Kd.V_mono HO_1.out (fun k_ hk => (⟨hk, hk.2⟩ : _ ∧ k_ ≠ gb274))) (fun _ hk => hk.2) (.int .i64 ((rd_T45 ((rd_T43 l0_1 x7_1).f0) x10_2).f0))) (fun _ hk => hk.2) (.int .i64 ((rd_T45 ((rd_T43 l0_1 x7_1).f0) x10_2).f1)))).2.2 ((rd_T45 ((rd_T43 l0_1 x7_1).f0) x10_2).f0) p275 q275; cases e275; replace p275 := eq_true p275; replace q275 := eq_true q275))
             (try simp only [Act.put, List.setIfInBounds_toArray, List.set_cons_zero, List.set_cons_succ])
             go_cut [63] (fun v63 wc => ∃ (kq : Nat) (x63_24 : Bool), v63 = .bool x63_24 ∧ Aside0 (saturateref41_next.j2 kq x1_2 x7_1 t272 x10_2 (-1) x63_24 l0_0 l0_1 ((rd_T43 l0_1 x7_1).f0) ((rd_T43 l0_1 x7_1).f1) ((rd_T45 ((rd_T43 l0_1 x7_1).f0) x10_2).f0) ((rd_T45 ((rd_T43 l0_1 x7_1).f0) x10_2).f1) = some (r1, r2, r3)) ∧ Aside0 (kq ≤ k2) ∧ Aside0 (Kd.V (Kd.int .i64) 3 wc w.heap.size (fun k_ => (P1_ k_ ∨ w.heap.size ≤ k_) ∧ k_ ≠ gb269 ∧ k_ ≠ gb271 ∧ k_ ≠ gb274) (.slice (some ad275) x1_2.length c1) x1_2) ∧ Aside0 (wc.heap[gb269]? = some (.cells #[(.slice A0_0 l0_0.length c0_0), (.slice (some ad270) l0_1.length c0_1)] 25 (0, 0))) ∧ Aside0 (wc.heap[gb271]? = some (.cells #[(.slice (some ad273) ((rd_T43 l0_1 x7_1).f0).length c270_0), .int .i64 ((rd_T43 l0_1 x7_1).f1)] 43 (0, 0))) ∧ Aside0 (wc.heap[gb274]? = some (.cells #[.int .i64 ((rd_T45 ((rd_T43 l0_1 x7_1).f0) x10_2).f0), .int .i64 ((rd_T45 ((rd_T43 l0_1 x7_1).f0) x10_2).f1)] 45 (0, 0))) ∧ Aside0 (Below w.heap.size w wc))
             case first =>
              have H := HC25.out
              clear HC25
              by_cases c32 : ((rd_T45 ((rd_T43 l0_1 x7_1).f0) x10_2).f1) > 0
              ·rw [if_pos c32] at H
               have c32b0 : decide (0 < ((rd_T45 ((rd_T43 l0_1 x7_1).f0) x10_2).f1)) = true := decide_eq_true c32
               (try simp only [hl1_1, hl1_2] at c32b0)
               clear c32
               (first | rw [c32b0] | (simp only [i64_w, i32_w]; rw [c32b0]) | skip)
               have H' := Aside0.mk H
               clear H
               have hnb33 := NB274_269.out
               have hnc33 := NB269_274.out
               have hnb34 := NB274_271.out
               have hnc34 := NB271_274.out
               have hcz35_0 : w28.cell? ⟨gb274, 0, none⟩ = some (.int .i64 0) := (blk_cell BK274.out 0).trans rfl
               have hcz35_1 : w28.cell? ⟨gb274, 1, none⟩ = some (.int .i64 0) := (blk_cell BK274.out 1).trans rfl
               have hfz35_0 := blk_frozen BK274.out 0
               have hfz35_1 := blk_frozen BK274.out 1
               have hnb36 := NB271_269.out
               have hnc36 := NB269_271.out
               have hcz37_0 : w28.cell? ⟨gb271, 0, none⟩ = some (.slice (some ad273) ((rd_T43 l0_1 x7_1).f0).length c270_0) := (blk_cell BK271.out 0).trans rfl
               have hcz37_1 : w28.cell? ⟨gb271, 1, none⟩ = some (.int .i64 ((rd_T43 l0_1 x7_1).f1)) := (blk_cell BK271.out 1).trans rfl
               have hfz37_0 := blk_frozen BK271.out 0
               have hfz37_1 := blk_frozen BK271.out 1
               go_wp2
               go_meet
               case rel => exact ⟨_, (decide ((wrap64 (t272 - ((rd_T45 ((rd_T43 l0_1 x7_1).f0) x10_2).f1))) < ((rd_T43 l0_1 x7_1).f1))), (by first | rfl | (simp; done) | (simp [*]; done)), H', ⟨by have := HK1.out; have := HK2.out; first | omega | exact Nat.le_refl _⟩, ⟨by (try simp only [hl1_1]); (try simp only [hl1_2]); (with_reducible repeat (first | apply Kd.V_alloc | apply Kd.V_drewN | apply Kd.V_drew)); exact Kd.V_mono (Kd.V_far (p := ⟨gb274, 1, none⟩) (Kd.V_far (p := ⟨gb274, 0, none⟩) (Kd.V_mono HO_1.out (fun k_ hk => (⟨hk, hk.2⟩ : _ ∧ k_ ≠ gb274))) (fun _ hk => hk.2) (.int .i64 ((rd_T45 ((rd_T43 l0_1 x7_1).f0) x10_2).f0))) (fun _ hk => hk.2) (.int .i64 ((rd_T45 ((rd_T43 l0_1 x7_1).f0) x10_2).f1))) (fun _ hk => ⟨hk.1.1.1, ⟨hk.1.1.2.1, ⟨hk.1.1.2.2, hk.1.2⟩⟩⟩)⟩, ⟨by (try simp only [hl1_1]); (try simp only [hl1_2]); (with_reducible repeat (first | refine blk_drewN ?_ _ | refine blk_drew ?_ | refine blk_alloc ?_ _)); refine blk_far ?_ NB269_274.out _; (with_reducible repeat (first | refine blk_drewN ?_ _ | refine blk_drew ?_ | refine blk_alloc ?_ _)); refine blk_far ?_ NB269_274.out _; (with_reducible repeat (first | refine blk_drewN ?_ _ | refine blk_drew ?_ | refine blk_alloc ?_ _)); exact BK269.out⟩, ⟨by (try simp only [hl1_1]); (try simp only [hl1_2]); (with_reducible repeat (first | refine blk_drewN ?_ _ | refine blk_drew ?_ | refine blk_alloc ?_ _)); refine blk_far ?_ NB271_274.out _; (with_reducible repeat (first | refine blk_drewN ?_ _ | refine blk_drew ?_ | refine blk_alloc ?_ _)); refine blk_far ?_ NB271_274.out _; (with_reducible repeat (first | refine blk_drewN ?_ _ | refine blk_drew ?_ | refine blk_alloc ?_ _)); exact BK271.out⟩, ⟨by (try simp only [hl1_1]); (try simp only [hl1_2]); (with_reducible repeat (first | refine blk_drewN ?_ _ | refine blk_drew ?_ | refine blk_alloc ?_ _)); refine blk_put (cs := #[.int .i64 ((rd_T45 ((rd_T43 l0_1 x7_1).f0) x10_2).f0), .int .i64 0]) ?_ 1 _ rfl; (with_reducible repeat (first | refine blk_drewN ?_ _ | refine blk_drew ?_ | refine blk_alloc ?_ _)); refine blk_put (cs := #[.int .i64 0, .int .i64 0]) ?_ 0 _ rfl; (with_reducible repeat (first | refine blk_drewN ?_ _ | refine blk_drew ?_ | refine blk_alloc ?_ _)); exact BK274.out⟩, ⟨by repeat (first | (with_reducible first | exact HB.out | apply below_alloc | apply pw_below_drewN | apply below_drew1 | refine below_set ?_ GE269.out | refine below_set ?_ GE271.out | refine below_set ?_ GE274.out) | exact HB.out)⟩⟩
              ·rw [if_neg c32] at H
               have c32b0 : decide (0 < ((rd_T45 ((rd_T43 l0_1 x7_1).f0) x10_2).f1)) = false := decide_eq_false c32
               (try simp only [hl1_1, hl1_2] at c32b0)
               clear c32
               (first | rw [c32b0] | (simp only [i64_w, i32_w]; rw [c32b0]) | skip)
               have H' := Aside0.mk H
               clear H
               have hnb38 := NB274_269.out
               have hnc38 := NB269_274.out
               have hnb39 := NB274_271.out
               have hnc39 := NB271_274.out
               have hcz40_0 : w28.cell? ⟨gb274, 0, none⟩ = some (.int .i64 0) := (blk_cell BK274.out 0).trans rfl
               have hcz40_1 : w28.cell? ⟨gb274, 1, none⟩ = some (.int .i64 0) := (blk_cell BK274.out 1).trans rfl
               have hfz40_0 := blk_frozen BK274.out 0
               have hfz40_1 := blk_frozen BK274.out 1
               go_wp2
               go_meet
               case rel => exact ⟨_, (false), (by first | rfl | (simp; done) | (simp [*]; done)), H', ⟨by have := HK1.out; have := HK2.out; first | omega | exact Nat.le_refl _⟩, ⟨by (try simp only [hl1_1]); (try simp only [hl1_2]); (with_reducible repeat (first | apply Kd.V_alloc | apply Kd.V_drewN | apply Kd.V_drew)); exact Kd.V_mono (Kd.V_far (p := ⟨gb274, 1, none⟩) (Kd.V_far (p := ⟨gb274, 0, none⟩) (Kd.V_mono HO_1.out (fun k_ hk => (⟨hk, hk.2⟩ : _ ∧ k_ ≠ gb274))) (fun _ hk => hk.2) (.int .i64 ((rd_T45 ((rd_T43 l0_1 x7_1).f0) x10_2).f0))) (fun _ hk => hk.2) (.int .i64 ((rd_T45 ((rd_T43 l0_1 x7_1).f0) x10_2).f1))) (fun _ hk => ⟨hk.1.1.1, ⟨hk.1.1.2.1, ⟨hk.1.1.2.2, hk.1.2⟩⟩⟩)⟩, ⟨by (try simp only [hl1_1]); (try simp only [hl1_2]); (with_reducible repeat (first | refine blk_drewN ?_ _ | refine blk_drew ?_ | refine blk_alloc ?_ _)); refine blk_far ?_ NB269_274.out _; (with_reducible repeat (first | refine blk_drewN ?_ _ | refine blk_drew ?_ | refine blk_alloc ?_ _)); refine blk_far ?_ NB269_274.out _; (with_reducible repeat (first | refine blk_drewN ?_ _ | refine blk_drew ?_ | refine blk_alloc ?_ _)); exact BK269.out⟩, ⟨by (try simp only [hl1_1]); (try simp only [hl1_2]); (with_reducible repeat (first | refine blk_drewN ?_ _ | refine blk_drew ?_ | refine blk_alloc ?_ _)); refine blk_far ?_ NB271_274.out _; (with_reducible repeat (first | refine blk_drewN ?_ _ | refine blk_drew ?_ | refine blk_alloc ?_ _)); refine blk_far ?_ NB271_274.out _; (with_reducible repeat (first | refine blk_drewN ?_ _ | refine blk_drew ?_ | refine blk_alloc ?_ _)); exact BK271.out⟩, ⟨by (try simp only [hl1_1]); (try simp only [hl1_2]); (with_reducible repeat (first | refine blk_drewN ?_ _ | refine blk_drew ?_ | refine blk_alloc ?_ _)); refine blk_put (cs := #[.int .i64 ((rd_T45 ((rd_T43 l0_1 x7_1).f0) x10_2).f0), .int .i64 0]) ?_ 1 _ rfl; (with_reducible repeat (first | refine blk_drewN ?_ _ | refine blk_drew ?_ | refine blk_alloc ?_ _)); refine blk_put (cs := #[.int .i64 0, .int .i64 0]) ?_ 0 _ rfl; (with_reducible repeat (first | refine blk_drewN ?_ _ | refine blk_drew ?_ | refine blk_alloc ?_ _)); exact BK274.out⟩, ⟨by repeat (first | (with_reducible first | exact HB.out | apply below_alloc | apply pw_below_drewN | apply below_drew1 | refine below_set ?_ GE269.out | refine below_set ?_ GE271.out | refine below_set ?_ GE274.out) | exact HB.out)⟩⟩
             case rest =>
              clear HC25
              try clear c1
              try clear c2
              try clear p2
              try clear q2
              try clear hx2
              try clear c3
              try clear c4
              try clear c4b0
              try clear c5
              try clear c5b0
              try clear p6
              try clear c7
              try clear c7b0
              try clear c10
              try clear c16
              try clear c20
              try clear c20b0
              try clear c21
              try clear c21b0
              try clear c22
              try clear c22b0
              try clear c23
              try clear c23b0
              try clear c24
              try clear c24b0
              try clear c24b1
              try clear c26
              try clear c27
              try clear p27
              try clear q27
              try clear hx27
              try clear c29
              try clear c30
              try clear c31
              try clear c32
              try clear c32b0
              try clear c33
              try clear c34
              try clear c36
              try clear c38
              try clear c39
              try clear hcz11_0
              try clear hcz11_1
              try clear hcz13_0
              try clear hcz13_1
              try clear hcz14_0
              try clear hcz14_1
              try clear hcz17_0
              try clear hcz17_1
              try clear hcz19_0
              try clear hcz19_1
              try clear hcz27_0
              try clear hcz27_1
              try clear hcz31_0
              try clear hcz31_1
              try clear hcz35_0
              try clear hcz35_1
              try clear hcz37_0
              try clear hcz37_1
              try clear hcz40_0
              try clear hcz40_1
              try clear hcz8_0
              try clear hcz8_1
              try clear hfz11_0
              try clear hfz11_1
              try clear hfz13_0
              try clear hfz13_1
              try clear hfz14_0
              try clear hfz14_1
              try clear hfz17_0
              try clear hfz17_1
              try clear hfz19_0
              try clear hfz19_1
              try clear hfz27_0
              try clear hfz27_1
              try clear hfz31_0
              try clear hfz31_1
              try clear hfz35_0
              try clear hfz35_1
              try clear hfz37_0
              try clear hfz37_1
              try clear hfz40_0
              try clear hfz40_1
              try clear hfz8_0
              try clear hfz8_1
              try clear hx270_0
              try clear hx270_1
              try clear hx273_0
              try clear hx273_1
              try clear hx275_0
              try clear p2
              try clear p270
              try clear p273
              try clear p275
              try clear q2
              try clear q270
              try clear q273
              try clear q275
              obtain ⟨kq, x63_24, rfl, HA, HJ24, HO_1, BK269, BK271, BK274, HB⟩ := hcut
              cases kq with
              | zero => exact absurd HA.out (by simp [saturateref41_next.j2])
              | succ kj24 =>
               have H := HA.out
               clear HA
               simp only [saturateref41_next.j2] at H
               have HC41 := Aside0.mk H
               clear H
               go_upto_if 63 with (fail)
               go_cut [12] (fun v12 wc => ∃ (kq : Nat) (x12_40 : Int), v12 = .int .i64 x12_40 ∧ Aside0 (saturateref41_next.j3 kq x1_2 x7_1 t272 x10_2 x12_40 l0_0 l0_1 ((rd_T43 l0_1 x7_1).f0) ((rd_T43 l0_1 x7_1).f1) ((rd_T45 ((rd_T43 l0_1 x7_1).f0) x10_2).f0) ((rd_T45 ((rd_T43 l0_1 x7_1).f0) x10_2).f1) = some (r1, r2, r3)) ∧ Aside0 (kq ≤ kj24) ∧ Aside0 (Kd.V (Kd.int .i64) 3 wc w.heap.size (fun k_ => (P1_ k_ ∨ w.heap.size ≤ k_) ∧ k_ ≠ gb269 ∧ k_ ≠ gb271 ∧ k_ ≠ gb274) (.slice (some ad275) x1_2.length c1) x1_2) ∧ Aside0 (wc.heap[gb269]? = some (.cells #[(.slice A0_0 l0_0.length c0_0), (.slice (some ad270) l0_1.length c0_1)] 25 (0, 0))) ∧ Aside0 (wc.heap[gb271]? = some (.cells #[(.slice (some ad273) ((rd_T43 l0_1 x7_1).f0).length c270_0), .int .i64 ((rd_T43 l0_1 x7_1).f1)] 43 (0, 0))) ∧ Aside0 (wc.heap[gb274]? = some (.cells #[.int .i64 ((rd_T45 ((rd_T43 l0_1 x7_1).f0) x10_2).f0), .int .i64 ((rd_T45 ((rd_T43 l0_1 x7_1).f0) x10_2).f1)] 45 (0, 0))) ∧ Aside0 (Below w.heap.size w wc))
               case first =>
                have H := HC41.out
                clear HC41
                by_cases c42 : x63_24 = true
                ·subst c42
                 have H1 : (saturateref41_next.j3 kj24 x1_2 x7_1 t272 x10_2 1 l0_0 l0_1 ((rd_T43 l0_1 x7_1).f0) ((rd_T43 l0_1 x7_1).f1) ((rd_T45 ((rd_T43 l0_1 x7_1).f0) x10_2).f0) ((rd_T45 ((rd_T43 l0_1 x7_1).f0) x10_2).f1)) = some (r1, r2, r3) := by rw [if_pos rfl] at H; exact H
                 clear H
                 have H := H1
                 clear H1
                 have H' := Aside0.mk H
                 clear H
                 go_wp2
                 go_meet
                 case rel => exact ⟨_, (1), (by first | rfl | (simp; done) | (simp [*]; done)), H', ⟨by have := HK1.out; have := HK2.out; have := HJ24.out; first | omega | exact Nat.le_refl _⟩, ⟨by (try simp only [hl1_1]); (try simp only [hl1_2]); (with_reducible repeat (first | apply Kd.V_alloc | apply Kd.V_drewN | apply Kd.V_drew)); exact HO_1.out⟩, ⟨by (try simp only [hl1_1]); (try simp only [hl1_2]); (with_reducible repeat (first | refine blk_drewN ?_ _ | refine blk_drew ?_ | refine blk_alloc ?_ _)); exact BK269.out⟩, ⟨by (try simp only [hl1_1]); (try simp only [hl1_2]); (with_reducible repeat (first | refine blk_drewN ?_ _ | refine blk_drew ?_ | refine blk_alloc ?_ _)); exact BK271.out⟩, ⟨by (try simp only [hl1_1]); (try simp only [hl1_2]); (with_reducible repeat (first | refine blk_drewN ?_ _ | refine blk_drew ?_ | refine blk_alloc ?_ _)); exact BK274.out⟩, ⟨by repeat (first | (with_reducible first | exact HB.out | apply below_alloc | apply pw_below_drewN | apply below_drew1 | refine below_set ?_ GE269.out | refine below_set ?_ GE271.out | refine below_set ?_ GE274.out) | exact HB.out)⟩⟩
                ·replace c42 := Bool.eq_false_iff.mpr c42
                 subst c42
                 have H1 : (saturateref41_next.j3 kj24 x1_2 x7_1 t272 x10_2 (-1) l0_0 l0_1 ((rd_T43 l0_1 x7_1).f0) ((rd_T43 l0_1 x7_1).f1) ((rd_T45 ((rd_T43 l0_1 x7_1).f0) x10_2).f0) ((rd_T45 ((rd_T43 l0_1 x7_1).f0) x10_2).f1)) = some (r1, r2, r3) := by rw [if_neg (show ¬ (false = true) by decide)] at H; exact H
                 clear H
                 have H := H1
                 clear H1
                 have H' := Aside0.mk H
                 clear H
                 go_wp2
                 go_meet
                 case rel => exact ⟨_, ((-1)), (by first | rfl | (simp; done) | (simp [*]; done)), H', ⟨by have := HK1.out; have := HK2.out; have := HJ24.out; first | omega | exact Nat.le_refl _⟩, ⟨by (try simp only [hl1_1]); (try simp only [hl1_2]); (with_reducible repeat (first | apply Kd.V_alloc | apply Kd.V_drewN | apply Kd.V_drew)); exact HO_1.out⟩, ⟨by (try simp only [hl1_1]); (try simp only [hl1_2]); (with_reducible repeat (first | refine blk_drewN ?_ _ | refine blk_drew ?_ | refine blk_alloc ?_ _)); exact BK269.out⟩, ⟨by (try simp only [hl1_1]); (try simp only [hl1_2]); (with_reducible repeat (first | refine blk_drewN ?_ _ | refine blk_drew ?_ | refine blk_alloc ?_ _)); exact BK271.out⟩, ⟨by (try simp only [hl1_1]); (try simp only [hl1_2]); (with_reducible repeat (first | refine blk_drewN ?_ _ | refine blk_drew ?_ | refine blk_alloc ?_ _)); exact BK274.out⟩, ⟨by repeat (first | (with_reducible first | exact HB.out | apply below_alloc | apply pw_below_drewN | apply below_drew1 | refine below_set ?_ GE269.out | refine below_set ?_ GE271.out | refine below_set ?_ GE274.out) | exact HB.out)⟩⟩
               case rest =>
                clear HC41
                try clear c1
                try clear c2
                try clear p2
                try clear q2
                try clear hx2
                try clear c3
                try clear c4
                try clear c4b0
                try clear c5
                try clear c5b0
                try clear p6
                try clear c7
                try clear c7b0
                try clear c10
                try clear c16
                try clear c20
                try clear c20b0
                try clear c21
                try clear c21b0
                try clear c22
                try clear c22b0
                try clear c23
                try clear c23b0
                try clear c24
                try clear c24b0
                try clear c24b1
                try clear c26
                try clear c27
                try clear p27
                try clear q27
                try clear hx27
                try clear c29
                try clear c30
                try clear c31
                try clear c32
                try clear c32b0
                try clear c33
                try clear c34
                try clear c36
                try clear c38
                try clear c39
                try clear c42
                try clear hcz11_0
                try clear hcz11_1
                try clear hcz13_0
                try clear hcz13_1
                try clear hcz14_0
                try clear hcz14_1
                try clear hcz17_0
                try clear hcz17_1
                try clear hcz19_0
                try clear hcz19_1
                try clear hcz27_0
                try clear hcz27_1
                try clear hcz31_0
                try clear hcz31_1
                try clear hcz35_0
                try clear hcz35_1
                try clear hcz37_0
                try clear hcz37_1
                try clear hcz40_0
                try clear hcz40_1
                try clear hcz8_0
                try clear hcz8_1
                try clear hfz11_0
                try clear hfz11_1
                try clear hfz13_0
                try clear hfz13_1
                try clear hfz14_0
                try clear hfz14_1
                try clear hfz17_0
                try clear hfz17_1
                try clear hfz19_0
                try clear hfz19_1
                try clear hfz27_0
                try clear hfz27_1
                try clear hfz31_0
                try clear hfz31_1
                try clear hfz35_0
                try clear hfz35_1
                try clear hfz37_0
                try clear hfz37_1
                try clear hfz40_0
                try clear hfz40_1
                try clear hfz8_0
                try clear hfz8_1
                try clear hx270_0
                try clear hx270_1
                try clear hx273_0
                try clear hx273_1
                try clear hx275_0
                try clear p2
                try clear p27
                try clear p270
                try clear p273
                try clear p275
                try clear p6
                try clear q2
                try clear q27
                try clear q270
                try clear q273
                try clear q275
                obtain ⟨kq, x12_40, rfl, HA, HJ40, HO_1, BK269, BK271, BK274, HB⟩ := hcut
                cases kq with
                | zero => exact absurd HA.out (by simp [saturateref41_next.j3])
                | succ kj40 =>
                 have H := HA.out
                 clear HA
                 simp only [saturateref41_next.j3] at H
                 have HC43 := Aside0.mk H
                 clear H
                 go_upto_region 16 with (fail)
                 go_cut [75] (fun v75 wc => ∃ (kq : Nat) (x75_42 : Bool), v75 = .bool x75_42 ∧ Aside0 (saturateref41_next.j4 kq x1_2 x7_1 t272 x10_2 x12_40 x75_42 l0_0 l0_1 ((rd_T43 l0_1 x7_1).f0) ((rd_T43 l0_1 x7_1).f1) ((rd_T45 ((rd_T43 l0_1 x7_1).f0) x10_2).f0) ((rd_T45 ((rd_T43 l0_1 x7_1).f0) x10_2).f1) = some (r1, r2, r3)) ∧ Aside0 (kq ≤ kj40) ∧ Aside0 (Kd.V (Kd.int .i64) 3 wc w.heap.size (fun k_ => (P1_ k_ ∨ w.heap.size ≤ k_) ∧ k_ ≠ gb269 ∧ k_ ≠ gb271 ∧ k_ ≠ gb274) (.slice (some ad275) x1_2.length c1) x1_2) ∧ Aside0 (wc.heap[gb269]? = some (.cells #[(.slice A0_0 l0_0.length c0_0), (.slice (some ad270) l0_1.length c0_1)] 25 (0, 0))) ∧ Aside0 (wc.heap[gb271]? = some (.cells #[(.slice (some ad273) ((rd_T43 l0_1 x7_1).f0).length c270_0), .int .i64 ((rd_T43 l0_1 x7_1).f1)] 43 (0, 0))) ∧ Aside0 (wc.heap[gb274]? = some (.cells #[.int .i64 ((rd_T45 ((rd_T43 l0_1 x7_1).f0) x10_2).f0), .int .i64 ((rd_T45 ((rd_T43 l0_1 x7_1).f0) x10_2).f1)] 45 (0, 0))) ∧ Aside0 (Below w.heap.size w wc))
                 case first =>
                  have H := HC43.out
                  clear HC43
                  by_cases c44 : ((rd_T45 ((rd_T43 l0_1 x7_1).f0) x10_2).f1) < 0
                  ·rw [if_pos c44] at H
                   have c44b0 : decide (((rd_T45 ((rd_T43 l0_1 x7_1).f0) x10_2).f1) < 0) = true := decide_eq_true c44
                   (try simp only [hl1_1, hl1_2] at c44b0)
                   clear c44
                   (first | rw [c44b0] | (simp only [i64_w, i32_w]; rw [c44b0]) | skip)
                   have H' := Aside0.mk H
                   clear H
                   have hnb45 := NB274_269.out
                   have hnc45 := NB269_274.out
                   have hnb46 := NB274_271.out
                   have hnc46 := NB271_274.out
                   have hcz47_0 : wc.cell? ⟨gb274, 0, none⟩ = some (.int .i64 ((rd_T45 ((rd_T43 l0_1 x7_1).f0) x10_2).f0)) := (blk_cell BK274.out 0).trans rfl
                   have hcz47_1 : wc.cell? ⟨gb274, 1, none⟩ = some (.int .i64 ((rd_T45 ((rd_T43 l0_1 x7_1).f0) x10_2).f1)) := (blk_cell BK274.out 1).trans rfl
                   have hfz47_0 := blk_frozen BK274.out 0
                   have hfz47_1 := blk_frozen BK274.out 1
                   have hnb48 := NB271_269.out
                   have hnc48 := NB269_271.out
                   have hcz49_0 : wc.cell? ⟨gb271, 0, none⟩ = some (.slice (some ad273) ((rd_T43 l0_1 x7_1).f0).length c270_0) := (blk_cell BK271.out 0).trans rfl
                   have hcz49_1 : wc.cell? ⟨gb271, 1, none⟩ = some (.int .i64 ((rd_T43 l0_1 x7_1).f1)) := (blk_cell BK271.out 1).trans rfl
                   have hfz49_0 := blk_frozen BK271.out 0
                   have hfz49_1 := blk_frozen BK271.out 1
                   go_wp2
                   go_meet
                   case rel => exact ⟨_, (decide ((wrap64 (t272 + ((rd_T45 ((rd_T43 l0_1 x7_1).f0) x10_2).f1))) < ((rd_T43 l0_1 x7_1).f1))), (by first | rfl | (simp; done) | (simp [*]; done)), H', ⟨by have := HK1.out; have := HK2.out; have := HJ24.out; have := HJ40.out; first | omega | exact Nat.le_refl _⟩, ⟨by (try simp only [hl1_1]); (try simp only [hl1_2]); (with_reducible repeat (first | apply Kd.V_alloc | apply Kd.V_drewN | apply Kd.V_drew)); exact HO_1.out⟩, ⟨by (try simp only [hl1_1]); (try simp only [hl1_2]); (with_reducible repeat (first | refine blk_drewN ?_ _ | refine blk_drew ?_ | refine blk_alloc ?_ _)); exact BK269.out⟩, ⟨by (try simp only [hl1_1]); (try simp only [hl1_2]); (with_reducible repeat (first | refine blk_drewN ?_ _ | refine blk_drew ?_ | refine blk_alloc ?_ _)); exact BK271.out⟩, ⟨by (try simp only [hl1_1]); (try simp only [hl1_2]); (with_reducible repeat (first | refine blk_drewN ?_ _ | refine blk_drew ?_ | refine blk_alloc ?_ _)); exact BK274.out⟩, ⟨by repeat (first | (with_reducible first | exact HB.out | apply below_alloc | apply pw_below_drewN | apply below_drew1 | refine below_set ?_ GE269.out | refine below_set ?_ GE271.out | refine below_set ?_ GE274.out) | exact HB.out)⟩⟩
                  ·rw [if_neg c44] at H
                   have c44b0 : decide (((rd_T45 ((rd_T43 l0_1 x7_1).f0) x10_2).f1) < 0) = false := decide_eq_false c44
                   (try simp only [hl1_1, hl1_2] at c44b0)
                   clear c44
                   (first | rw [c44b0] | (simp only [i64_w, i32_w]; rw [c44b0]) | skip)
                   have H' := Aside0.mk H
                   clear H
                   have hnb50 := NB274_269.out
                   have hnc50 := NB269_274.out
                   have hnb51 := NB274_271.out
                   have hnc51 := NB271_274.out
                   have hcz52_0 : wc.cell? ⟨gb274, 0, none⟩ = some (.int .i64 ((rd_T45 ((rd_T43 l0_1 x7_1).f0) x10_2).f0)) := (blk_cell BK274.out 0).trans rfl
                   have hcz52_1 : wc.cell? ⟨gb274, 1, none⟩ = some (.int .i64 ((rd_T45 ((rd_T43 l0_1 x7_1).f0) x10_2).f1)) := (blk_cell BK274.out 1).trans rfl
                   have hfz52_0 := blk_frozen BK274.out 0
                   have hfz52_1 := blk_frozen BK274.out 1
                   go_wp2
                   go_meet
                   case rel => exact ⟨_, (false), (by first | rfl | (simp; done) | (simp [*]; done)), H', ⟨by have := HK1.out; have := HK2.out; have := HJ24.out; have := HJ40.out; first | omega | exact Nat.le_refl _⟩, ⟨by (try simp only [hl1_1]); (try simp only [hl1_2]); (with_reducible repeat (first | apply Kd.V_alloc | apply Kd.V_drewN | apply Kd.V_drew)); exact HO_1.out⟩, ⟨by (try simp only [hl1_1]); (try simp only [hl1_2]); (with_reducible repeat (first | refine blk_drewN ?_ _ | refine blk_drew ?_ | refine blk_alloc ?_ _)); exact BK269.out⟩, ⟨by (try simp only [hl1_1]); (try simp only [hl1_2]); (with_reducible repeat (first | refine blk_drewN ?_ _ | refine blk_drew ?_ | refine blk_alloc ?_ _)); exact BK271.out⟩, ⟨by (try simp only [hl1_1]); (try simp only [hl1_2]); (with_reducible repeat (first | refine blk_drewN ?_ _ | refine blk_drew ?_ | refine blk_alloc ?_ _)); exact BK274.out⟩, ⟨by repeat (first | (with_reducible first | exact HB.out | apply below_alloc | apply pw_below_drewN | apply below_drew1 | refine below_set ?_ GE269.out | refine below_set ?_ GE271.out | refine below_set ?_ GE274.out) | exact HB.out)⟩⟩
                 case rest =>
                  clear HC43
                  try clear c1
                  try clear c2
                  try clear p2
                  try clear q2
                  try clear hx2
                  try clear c3
                  try clear c4
                  try clear c4b0
                  try clear c5
                  try clear c5b0
                  try clear p6
                  try clear c7
                  try clear c7b0
                  try clear c10
                  try clear c16
                  try clear c20
                  try clear c20b0
                  try clear c21
                  try clear c21b0
                  try clear c22
                  try clear c22b0
                  try clear c23
                  try clear c23b0
                  try clear c24
                  try clear c24b0
                  try clear c24b1
                  try clear c26
                  try clear c27
                  try clear p27
                  try clear q27
                  try clear hx27
                  try clear c29
                  try clear c30
                  try clear c31
                  try clear c32
                  try clear c32b0
                  try clear c33
                  try clear c34
                  try clear c36
                  try clear c38
                  try clear c39
                  try clear c42
                  try clear c44
                  try clear c44b0
                  try clear c45
                  try clear c46
                  try clear c48
                  try clear c50
                  try clear c51
                  try clear hcz11_0
                  try clear hcz11_1
                  try clear hcz13_0
                  try clear hcz13_1
                  try clear hcz14_0
                  try clear hcz14_1
                  try clear hcz17_0
                  try clear hcz17_1
                  try clear hcz19_0
                  try clear hcz19_1
                  try clear hcz27_0
                  try clear hcz27_1
                  try clear hcz31_0
                  try clear hcz31_1
                  try clear hcz35_0
                  try clear hcz35_1
                  try clear hcz37_0
                  try clear hcz37_1
                  try clear hcz40_0
                  try clear hcz40_1
                  try clear hcz47_0
                  try clear hcz47_1
                  try clear hcz49_0
                  try clear hcz49_1
                  try clear hcz52_0
                  try clear hcz52_1
                  try clear hcz8_0
                  try clear hcz8_1
                  try clear hfz11_0
                  try clear hfz11_1
                  try clear hfz13_0
                  try clear hfz13_1
                  try clear hfz14_0
                  try clear hfz14_1
                  try clear hfz17_0
                  try clear hfz17_1
                  try clear hfz19_0
                  try clear hfz19_1
                  try clear hfz27_0
                  try clear hfz27_1
                  try clear hfz31_0
                  try clear hfz31_1
                  try clear hfz35_0
                  try clear hfz35_1
                  try clear hfz37_0
                  try clear hfz37_1
                  try clear hfz40_0
                  try clear hfz40_1
                  try clear hfz47_0
                  try clear hfz47_1
                  try clear hfz49_0
                  try clear hfz49_1
                  try clear hfz52_0
                  try clear hfz52_1
                  try clear hfz8_0
                  try clear hfz8_1
                  try clear hx270_0
                  try clear hx270_1
                  try clear hx273_0
                  try clear hx273_1
                  try clear hx275_0
                  try clear p2
                  try clear p27
                  try clear p270
                  try clear p273
                  try clear p275
                  try clear p6
                  try clear q2
                  try clear q27
                  try clear q270
                  try clear q273
                  try clear q275
                  obtain ⟨kq, x75_42, rfl, HA, HJ42, HO_1, BK269, BK271, BK274, HB⟩ := hcut
                  cases kq with
                  | zero => exact absurd HA.out (by simp [saturateref41_next.j4])
                  | succ kj42 =>
                   have H := HA.out
                   clear HA
                   simp only [saturateref41_next.j4] at H
                   by_cases c53 : x75_42 = true
                   ·subst c53
                    have H1 : (if 0 ≥ 0 then (if ([] : List Int).length + x1_2.length < 17592186044416 then ((some (([] : List Int) ++ x1_2 : List Int)).bind fun y276 => (if 0 ≤ ((rd_T45 ((rd_T43 l0_1 x7_1).f0) x10_2).f0) then (if ((rd_T45 ((rd_T43 l0_1 x7_1).f0) x10_2).f0) < (y276.length : Int) then (some ((y276.set (((rd_T45 ((rd_T43 l0_1 x7_1).f0) x10_2).f0) : Int).toNat 0), true, true)) else (none)) else (none))) else (none)) else (saturateref41_next.l1 kj42 x1_2 x7_1 t272 (wrap64 (x10_2 + 1)) l0_0 l0_1 ((rd_T43 l0_1 x7_1).f0) ((rd_T43 l0_1 x7_1).f1))) = some (r1, r2, r3) := by rw [if_pos rfl] at H; exact H
                    clear H
                    have H := H1
                    clear H1
                    by_cases c54 : 0 ≥ 0
                    ·rw [if_pos c54] at H
                     have c54b0 : decide (0 ≤ 0) = true := decide_eq_true c54
                     (try simp only [hl1_1, hl1_2] at c54b0)
                     clear c54
                     by_cases c55 : ([] : List Int).length + x1_2.length < 17592186044416
                     ·rw [if_pos c55] at H
                      have LMc55 := Aside0.mk c55
                      clear c55
                      obtain ⟨y276, hy276⟩ : ∃ y_ : List Int, y_ = (([] : List Int) ++ x1_2) := ⟨_, rfl⟩
                      replace H : (if 0 ≤ ((rd_T45 ((rd_T43 l0_1 x7_1).f0) x10_2).f0) then (if ((rd_T45 ((rd_T43 l0_1 x7_1).f0) x10_2).f0) < (y276.length : Int) then (some ((y276.set (((rd_T45 ((rd_T43 l0_1 x7_1).f0) x10_2).f0) : Int).toNat 0), true, true)) else (none)) else (none)) = some (r1, r2, r3) := by first | (rw [hy276]; with_reducible exact H) | (have H2_ := (Option.bind_some _ _).symm.trans H; rw [hy276]; with_reducible exact H2_) | (have H2_ := (Option.bind_some _ _).symm.trans H; with_reducible exact H2_) | with_reducible exact H | (rw [hy276]; exact H) | exact H
                      have Ny276 := Aside0.mk hy276
                      clear hy276
                      by_cases c56 : 0 ≤ ((rd_T45 ((rd_T43 l0_1 x7_1).f0) x10_2).f0)
                      ·rw [if_pos c56] at H
                       have c56b0 : decide (0 ≤ ((rd_T45 ((rd_T43 l0_1 x7_1).f0) x10_2).f0)) = true := decide_eq_true c56
                       (try simp only [hl1_1, hl1_2] at c56b0)
                       clear c56
                       by_cases c57 : ((rd_T45 ((rd_T43 l0_1 x7_1).f0) x10_2).f0) < (y276.length : Int)
                       ·rw [if_pos c57] at H
                        have c57b0 : decide (((rd_T45 ((rd_T43 l0_1 x7_1).f0) x10_2).f0) < (y276.length : Int)) = true := decide_eq_true c57
                        (try simp only [hl1_1, hl1_2] at c57b0)
                        clear c57
                        obtain ⟨y279, hy279⟩ : ∃ y_ : List Int, y_ = (y276.set (((rd_T45 ((rd_T43 l0_1 x7_1).f0) x10_2).f0) : Int).toNat 0) := ⟨_, rfl⟩
                        replace H : (some (y279, true, true)) = some (r1, r2, r3) := by first | (rw [hy279]; with_reducible exact H) | (have H2_ := (Option.bind_some _ _).symm.trans H; rw [hy279]; with_reducible exact H2_) | (have H2_ := (Option.bind_some _ _).symm.trans H; with_reducible exact H2_) | with_reducible exact H | (rw [hy279]; exact H) | exact H
                        have Ny279 := Aside0.mk hy279
                        clear hy279
                        simp only [Option.some.injEq, Prod.mk.injEq] at H
                        obtain ⟨rfl, rfl, rfl⟩ := H
                        go_wp2_with (first | ((with_reducible refine gate_builtin (b := .append) (xs := #[.tmp 78, .tmp 79]) rfl ?_); at_builtin; refine Kd.R_append_rows (Kd.int .i64) (w0 := w) w.heap.size rfl (.tmp 78) (.tmp 79) 26 3 (.int .i64 0) 8 rfl Try.underlying26 info3 rfl (by decide) (by omega) (.slice none 0 0) ([] : List Int) x1_2 _ _ _ (fun k_ => (w.heap.size ≤ k_)) (fun _ => False) rfl rfl ?aO ?aR (fun _ _ h => h) (fun _ h => h.elim) ?aF ?aB ?aS ?aL ?_; (case aR => repeat (first | exact (Kd.V_reads' HO_1.out).2.2 | (with_reducible refine Kd.C_alloc ?_ _) | (with_reducible refine Kd.C_drewN ?_ _) | (with_reducible refine Kd.C_drew ?_))); (case aB => exact (by repeat (first | (with_reducible first | exact HB.out | apply below_alloc | apply pw_below_drewN | apply below_drew1 | refine below_set ?_ GE269.out | refine below_set ?_ GE271.out | refine below_set ?_ GE274.out) | exact HB.out))); (case aF => exact (fun k_ hk => (Nat.le_trans (below_size (by repeat (first | (with_reducible first | exact HB.out | apply below_alloc | apply pw_below_drewN | apply below_drew1 | refine below_set ?_ GE269.out | refine below_set ?_ GE271.out | refine below_set ?_ GE274.out) | exact HB.out))) hk))); (case aO => exact ((Kd.R_nil _ _ _ _ (fun k_ => (w.heap.size ≤ k_))))); (case aS => exact (below_size (by repeat (first | (with_reducible first | exact HB.out | apply below_alloc | apply pw_below_drewN | apply below_drew1 | refine below_set ?_ GE269.out | refine below_set ?_ GE271.out | refine below_set ?_ GE274.out) | exact HB.out)))); (case aL => have := LMc55.out; omega); intro v277 w59 ho hb hg hat; rw [← Ny276.out] at ho; have n0_ := Aside0.mk (Kd.V_afterv (Kd.V_apart_nil (by (with_reducible repeat (first | apply Kd.V_alloc | apply Kd.V_drewN | apply Kd.V_drew)); exact HO_1.out)) hg hat); have n1_ := Aside0.mk (blk_grown (g := gb269) (o := .cells #[.slice A0_0 l0_0.length c0_0, .slice (some ad270) l0_1.length c0_1] 25 (0, 0)) (by (with_reducible repeat (first | refine blk_drewN ?_ _ | refine blk_drew ?_ | refine blk_alloc ?_ _)); exact BK269.out) hg (by simp [Value.ownBlock])); have n2_ := Aside0.mk (blk_grown (g := gb271) (o := .cells #[.slice (some ad273) ((rd_T43 l0_1 x7_1).f0).length c270_0, .int .i64 ((rd_T43 l0_1 x7_1).f1)] 43 (0, 0)) (by (with_reducible repeat (first | refine blk_drewN ?_ _ | refine blk_drew ?_ | refine blk_alloc ?_ _)); exact BK271.out) hg (by simp [Value.ownBlock])); have n3_ := Aside0.mk (blk_grown (g := gb274) (o := .cells #[.int .i64 ((rd_T45 ((rd_T43 l0_1 x7_1).f0) x10_2).f0), .int .i64 ((rd_T45 ((rd_T43 l0_1 x7_1).f0) x10_2).f1)] 45 (0, 0)) (by (with_reducible repeat (first | refine blk_drewN ?_ _ | refine blk_drew ?_ | refine blk_alloc ?_ _)); exact BK274.out) hg (by simp [Value.ownBlock])); have n4_ := Aside0.mk (hb); have n5_ := Aside0.mk (ho); clear HO_1; clear BK269; clear BK271; clear BK274; clear HB; have HO_1 := n0_; have BK269 := n1_; have BK271 := n2_; have BK274 := n3_; have HB := n4_; have HO278 := n5_; clear n0_ n1_ n2_ n3_ n4_ n5_; clear ho hb hg hat; have hnb60 := NB274_269.out; have hnc60 := NB269_274.out; have hnb61 := NB274_271.out; have hnc61 := NB271_274.out; have hcz62_0 : w59.cell? ⟨gb274, 0, none⟩ = some (.int .i64 ((rd_T45 ((rd_T43 l0_1 x7_1).f0) x10_2).f0)) := (blk_cell BK274.out 0).trans rfl; have hcz62_1 : w59.cell? ⟨gb274, 1, none⟩ = some (.int .i64 ((rd_T45 ((rd_T43 l0_1 x7_1).f0) x10_2).f1)) := (blk_cell BK274.out 1).trans rfl; have hfz62_0 := blk_frozen BK274.out 0; have hfz62_1 := blk_frozen BK274.out 1; have p58 : 0 ≤ (((rd_T45 ((rd_T43 l0_1 x7_1).f0) x10_2).f0) : Int) := of_decide_eq_true (by first | (with_reducible assumption) | assumption); have q58 : (((rd_T45 ((rd_T43 l0_1 x7_1).f0) x10_2).f0) : Int) < ((y276.length : Int) : Int) := of_decide_eq_true (by first | (with_reducible assumption) | assumption); obtain ⟨go58, co58, eo58, gb58, gl58, cl58, HG58⟩ := Kd.R_form HO278.out (by omega); (first | cases eo58 | (injection eo58 with ea_ en_ ec_; (first | subst ea_ | (injection ea_ with ea_; subst ea_)); subst ec_; clear en_)); have GB58 := Aside0.mk gb58; have GG58 := Aside0.mk HG58; clear gb58 gl58 HG58; (try simp only [add_plain] at *); obtain ⟨hx58_0, hf58_0⟩ := Kd.R_celln 0 HO278.out (((rd_T45 ((rd_T43 l0_1 x7_1).f0) x10_2).f0) : Int) p58 q58; replace p58 := eq_true p58; replace q58 := eq_true q58; obtain ⟨hy63_, hz63_⟩ := Kd.R_celln 0 HO278.out (((rd_T45 ((rd_T43 l0_1 x7_1).f0) x10_2).f0) : Int) (of_decide_eq_true (by first | (with_reducible assumption) | assumption)) (of_decide_eq_true (by first | (with_reducible assumption) | assumption)); have HP63 := Kd.R_putg HO278.out (((rd_T45 ((rd_T43 l0_1 x7_1).f0) x10_2).f0) : Int) 0) | ((with_reducible refine gate_store (t := 3) (p := 85) rfl ?_); refine store_event (t := 3) (p := 85) (v := ?vo_w64) (w1 := (w59.setCell ⟨go58, (((rd_T45 ((rd_T43 l0_1 x7_1).f0) x10_2).f0) : Int).toNat, none⟩ (.int .i64 0))) ?hg ?ho ?hn ?hr ?_; (case ho => rfl); (case hg => rfl); (case hn => rfl); (case hr => first | (go_simp; done) | (go_simp; rfl)); intro w64 hw; have hg : w59.grownBy w64 (some go58) := (by rw [hw]; exact HP63.2); have hp_ : Kd.R (Kd.int .i64) 3 w64 w.heap.size (fun k_ => (w.heap.size ≤ k_)) (.slice (some ⟨go58, 0, none⟩) y276.length co58) y279 := (by rw [hw, Ny279.out]; exact HP63.1); clear HP63; have n0_ := Aside0.mk (Kd.V_afterv (v := (.slice (some ⟨go58, 0, none⟩) y276.length co58)) (v1 := (.slice (some ⟨go58, 0, none⟩) y276.length co58)) (ok := (fun k_ => (P1_ k_ ∨ w.heap.size ≤ k_) ∧ k_ ≠ gb269 ∧ k_ ≠ gb271 ∧ k_ ≠ gb274)) (by (with_reducible repeat (first | apply Kd.V_alloc | apply Kd.V_drewN | apply Kd.V_drew)); exact HO_1.out) hg (.inl rfl)); have n1_ := Aside0.mk (blk_grown (g := gb269) (o := .cells #[.slice A0_0 l0_0.length c0_0, .slice (some ad270) l0_1.length c0_1] 25 (0, 0)) (by (with_reducible repeat (first | refine blk_drewN ?_ _ | refine blk_drew ?_ | refine blk_alloc ?_ _)); exact BK269.out) hg (Kd.R_ne HO278.out BK269.out (by decide))); have n2_ := Aside0.mk (blk_grown (g := gb271) (o := .cells #[.slice (some ad273) ((rd_T43 l0_1 x7_1).f0).length c270_0, .int .i64 ((rd_T43 l0_1 x7_1).f1)] 43 (0, 0)) (by (with_reducible repeat (first | refine blk_drewN ?_ _ | refine blk_drew ?_ | refine blk_alloc ?_ _)); exact BK271.out) hg (Kd.R_ne HO278.out BK271.out (by decide))); have n3_ := Aside0.mk (blk_grown (g := gb274) (o := .cells #[.int .i64 ((rd_T45 ((rd_T43 l0_1 x7_1).f0) x10_2).f0), .int .i64 ((rd_T45 ((rd_T43 l0_1 x7_1).f0) x10_2).f1)] 45 (0, 0)) (by (with_reducible repeat (first | refine blk_drewN ?_ _ | refine blk_drew ?_ | refine blk_alloc ?_ _)); exact BK274.out) hg (Kd.R_ne HO278.out BK274.out (by decide))); have n4_ := Aside0.mk (hp_); have n5_ := Aside0.mk ((by rw [hw]; exact below_set (HB.out) GB58.out : Below w.heap.size w w64)); clear HO_1; clear BK269; clear BK271; clear BK274; clear HO278; clear HB; have HO_1 := n0_; have BK269 := n1_; have BK271 := n2_; have BK274 := n3_; have HO278 := n4_; have HB := n5_; clear n0_ n1_ n2_ n3_ n4_ n5_; clear hg hw hp_))
                        go_ret3
                        exact ⟨_, by first | rfl | (simp [errW_none, errW_some] <;> rfl) | (simp [*, errW_none, errW_some] <;> rfl), Kd.V_mono (Kd.R_V (by (with_reducible repeat (first | apply Kd.R_alloc | apply Kd.R_drewN | apply Kd.R_drew)); exact HO278.out)) (fun k_ hk => by first | exact ⟨(.inr (hk.1)), hk.2⟩ | exact (.inr (hk))), by repeat (first | (with_reducible first | exact HB.out | apply below_alloc | apply pw_below_drewN | apply below_drew1 | refine below_set ?_ GE269.out | refine below_set ?_ GE271.out | refine below_set ?_ GE274.out) | exact HB.out)⟩
                       ·rw [if_neg c57] at H
                        exact absurd H (by simp)
                      ·rw [if_neg c56] at H
                       exact absurd H (by simp)
                     ·rw [if_neg c55] at H
                      exact absurd H (by simp)
                    ·exact absurd (by decide) c54
                   ·replace c53 := Bool.eq_false_iff.mpr c53
                    subst c53
                    have H1 : (if x12_40 ≥ 0 then (if ([] : List Int).length + x1_2.length < 17592186044416 then ((some (([] : List Int) ++ x1_2 : List Int)).bind fun y280 => (if 0 ≤ ((rd_T45 ((rd_T43 l0_1 x7_1).f0) x10_2).f0) then (if ((rd_T45 ((rd_T43 l0_1 x7_1).f0) x10_2).f0) < (y280.length : Int) then (some ((y280.set (((rd_T45 ((rd_T43 l0_1 x7_1).f0) x10_2).f0) : Int).toNat x12_40), true, true)) else (none)) else (none))) else (none)) else (saturateref41_next.l1 kj42 x1_2 x7_1 t272 (wrap64 (x10_2 + 1)) l0_0 l0_1 ((rd_T43 l0_1 x7_1).f0) ((rd_T43 l0_1 x7_1).f1))) = some (r1, r2, r3) := by rw [if_neg (show ¬ (false = true) by decide)] at H; exact H
                    clear H
                    have H := H1
                    clear H1
                    by_cases c65 : x12_40 ≥ 0
                    ·rw [if_pos c65] at H
                     have c65b0 : decide (0 ≤ x12_40) = true := decide_eq_true c65
                     (try simp only [hl1_1, hl1_2] at c65b0)
                     clear c65
                     by_cases c66 : ([] : List Int).length + x1_2.length < 17592186044416
                     ·rw [if_pos c66] at H
                      have LMc66 := Aside0.mk c66
                      clear c66
                      obtain ⟨y280, hy280⟩ : ∃ y_ : List Int, y_ = (([] : List Int) ++ x1_2) := ⟨_, rfl⟩
                      replace H : (if 0 ≤ ((rd_T45 ((rd_T43 l0_1 x7_1).f0) x10_2).f0) then (if ((rd_T45 ((rd_T43 l0_1 x7_1).f0) x10_2).f0) < (y280.length : Int) then (some ((y280.set (((rd_T45 ((rd_T43 l0_1 x7_1).f0) x10_2).f0) : Int).toNat x12_40), true, true)) else (none)) else (none)) = some (r1, r2, r3) := by first | (rw [hy280]; with_reducible exact H) | (have H2_ := (Option.bind_some _ _).symm.trans H; rw [hy280]; with_reducible exact H2_) | (have H2_ := (Option.bind_some _ _).symm.trans H; with_reducible exact H2_) | with_reducible exact H | (rw [hy280]; exact H) | exact H
                      have Ny280 := Aside0.mk hy280
                      clear hy280
                      by_cases c67 : 0 ≤ ((rd_T45 ((rd_T43 l0_1 x7_1).f0) x10_2).f0)
                      ·rw [if_pos c67] at H
                       have c67b0 : decide (0 ≤ ((rd_T45 ((rd_T43 l0_1 x7_1).f0) x10_2).f0)) = true := decide_eq_true c67
                       (try simp only [hl1_1, hl1_2] at c67b0)
                       clear c67
                       by_cases c68 : ((rd_T45 ((rd_T43 l0_1 x7_1).f0) x10_2).f0) < (y280.length : Int)
                       ·rw [if_pos c68] at H
                        have c68b0 : decide (((rd_T45 ((rd_T43 l0_1 x7_1).f0) x10_2).f0) < (y280.length : Int)) = true := decide_eq_true c68
                        (try simp only [hl1_1, hl1_2] at c68b0)
                        clear c68
                        obtain ⟨y283, hy283⟩ : ∃ y_ : List Int, y_ = (y280.set (((rd_T45 ((rd_T43 l0_1 x7_1).f0) x10_2).f0) : Int).toNat x12_40) := ⟨_, rfl⟩
                        replace H : (some (y283, true, true)) = some (r1, r2, r3) := by first | (rw [hy283]; with_reducible exact H) | (have H2_ := (Option.bind_some _ _).symm.trans H; rw [hy283]; with_reducible exact H2_) | (have H2_ := (Option.bind_some _ _).symm.trans H; with_reducible exact H2_) | with_reducible exact H | (rw [hy283]; exact H) | exact H
                        have Ny283 := Aside0.mk hy283
                        clear hy283
                        simp only [Option.some.injEq, Prod.mk.injEq] at H
                        obtain ⟨rfl, rfl, rfl⟩ := H
                        go_wp2_with (first | ((with_reducible refine gate_builtin (b := .append) (xs := #[.tmp 78, .tmp 79]) rfl ?_); at_builtin; refine Kd.R_append_rows (Kd.int .i64) (w0 := w) w.heap.size rfl (.tmp 78) (.tmp 79) 26 3 (.int .i64 0) 8 rfl Try.underlying26 info3 rfl (by decide) (by omega) (.slice none 0 0) ([] : List Int) x1_2 _ _ _ (fun k_ => (w.heap.size ≤ k_)) (fun _ => False) rfl rfl ?aO ?aR (fun _ _ h => h) (fun _ h => h.elim) ?aF ?aB ?aS ?aL ?_; (case aR => repeat (first | exact (Kd.V_reads' HO_1.out).2.2 | (with_reducible refine Kd.C_alloc ?_ _) | (with_reducible refine Kd.C_drewN ?_ _) | (with_reducible refine Kd.C_drew ?_))); (case aB => exact (by repeat (first | (with_reducible first | exact HB.out | apply below_alloc | apply pw_below_drewN | apply below_drew1 | refine below_set ?_ GE269.out | refine below_set ?_ GE271.out | refine below_set ?_ GE274.out) | exact HB.out))); (case aF => exact (fun k_ hk => (Nat.le_trans (below_size (by repeat (first | (with_reducible first | exact HB.out | apply below_alloc | apply pw_below_drewN | apply below_drew1 | refine below_set ?_ GE269.out | refine below_set ?_ GE271.out | refine below_set ?_ GE274.out) | exact HB.out))) hk))); (case aO => exact ((Kd.R_nil _ _ _ _ (fun k_ => (w.heap.size ≤ k_))))); (case aS => exact (below_size (by repeat (first | (with_reducible first | exact HB.out | apply below_alloc | apply pw_below_drewN | apply below_drew1 | refine below_set ?_ GE269.out | refine below_set ?_ GE271.out | refine below_set ?_ GE274.out) | exact HB.out)))); (case aL => have := LMc66.out; omega); intro v281 w70 ho hb hg hat; rw [← Ny280.out] at ho; have n0_ := Aside0.mk (Kd.V_afterv (Kd.V_apart_nil (by (with_reducible repeat (first | apply Kd.V_alloc | apply Kd.V_drewN | apply Kd.V_drew)); exact HO_1.out)) hg hat); have n1_ := Aside0.mk (blk_grown (g := gb269) (o := .cells #[.slice A0_0 l0_0.length c0_0, .slice (some ad270) l0_1.length c0_1] 25 (0, 0)) (by (with_reducible repeat (first | refine blk_drewN ?_ _ | refine blk_drew ?_ | refine blk_alloc ?_ _)); exact BK269.out) hg (by simp [Value.ownBlock])); have n2_ := Aside0.mk (blk_grown (g := gb271) (o := .cells #[.slice (some ad273) ((rd_T43 l0_1 x7_1).f0).length c270_0, .int .i64 ((rd_T43 l0_1 x7_1).f1)] 43 (0, 0)) (by (with_reducible repeat (first | refine blk_drewN ?_ _ | refine blk_drew ?_ | refine blk_alloc ?_ _)); exact BK271.out) hg (by simp [Value.ownBlock])); have n3_ := Aside0.mk (blk_grown (g := gb274) (o := .cells #[.int .i64 ((rd_T45 ((rd_T43 l0_1 x7_1).f0) x10_2).f0), .int .i64 ((rd_T45 ((rd_T43 l0_1 x7_1).f0) x10_2).f1)] 45 (0, 0)) (by (with_reducible repeat (first | refine blk_drewN ?_ _ | refine blk_drew ?_ | refine blk_alloc ?_ _)); exact BK274.out) hg (by simp [Value.ownBlock])); have n4_ := Aside0.mk (hb); have n5_ := Aside0.mk (ho); clear HO_1; clear BK269; clear BK271; clear BK274; clear HB; have HO_1 := n0_; have BK269 := n1_; have BK271 := n2_; have BK274 := n3_; have HB := n4_; have HO282 := n5_; clear n0_ n1_ n2_ n3_ n4_ n5_; clear ho hb hg hat; have hnb71 := NB274_269.out; have hnc71 := NB269_274.out; have hnb72 := NB274_271.out; have hnc72 := NB271_274.out; have hcz73_0 : w70.cell? ⟨gb274, 0, none⟩ = some (.int .i64 ((rd_T45 ((rd_T43 l0_1 x7_1).f0) x10_2).f0)) := (blk_cell BK274.out 0).trans rfl; have hcz73_1 : w70.cell? ⟨gb274, 1, none⟩ = some (.int .i64 ((rd_T45 ((rd_T43 l0_1 x7_1).f0) x10_2).f1)) := (blk_cell BK274.out 1).trans rfl; have hfz73_0 := blk_frozen BK274.out 0; have hfz73_1 := blk_frozen BK274.out 1; have p69 : 0 ≤ (((rd_T45 ((rd_T43 l0_1 x7_1).f0) x10_2).f0) : Int) := of_decide_eq_true (by first | (with_reducible assumption) | assumption); have q69 : (((rd_T45 ((rd_T43 l0_1 x7_1).f0) x10_2).f0) : Int) < ((y280.length : Int) : Int) := of_decide_eq_true (by first | (with_reducible assumption) | assumption); obtain ⟨go69, co69, eo69, gb69, gl69, cl69, HG69⟩ := Kd.R_form HO282.out (by omega); (first | cases eo69 | (injection eo69 with ea_ en_ ec_; (first | subst ea_ | (injection ea_ with ea_; subst ea_)); subst ec_; clear en_)); have GB69 := Aside0.mk gb69; have GG69 := Aside0.mk HG69; clear gb69 gl69 HG69; (try simp only [add_plain] at *); obtain ⟨hx69_0, hf69_0⟩ := Kd.R_celln 0 HO282.out (((rd_T45 ((rd_T43 l0_1 x7_1).f0) x10_2).f0) : Int) p69 q69; replace p69 := eq_true p69; replace q69 := eq_true q69; obtain ⟨hy74_, hz74_⟩ := Kd.R_celln 0 HO282.out (((rd_T45 ((rd_T43 l0_1 x7_1).f0) x10_2).f0) : Int) (of_decide_eq_true (by first | (with_reducible assumption) | assumption)) (of_decide_eq_true (by first | (with_reducible assumption) | assumption)); have HP74 := Kd.R_putg HO282.out (((rd_T45 ((rd_T43 l0_1 x7_1).f0) x10_2).f0) : Int) x12_40) | ((with_reducible refine gate_store (t := 3) (p := 85) rfl ?_); refine store_event (t := 3) (p := 85) (v := ?vo_w75) (w1 := (w70.setCell ⟨go69, (((rd_T45 ((rd_T43 l0_1 x7_1).f0) x10_2).f0) : Int).toNat, none⟩ (.int .i64 x12_40))) ?hg ?ho ?hn ?hr ?_; (case ho => rfl); (case hg => rfl); (case hn => rfl); (case hr => first | (go_simp; done) | (go_simp; rfl)); intro w75 hw; have hg : w70.grownBy w75 (some go69) := (by rw [hw]; exact HP74.2); have hp_ : Kd.R (Kd.int .i64) 3 w75 w.heap.size (fun k_ => (w.heap.size ≤ k_)) (.slice (some ⟨go69, 0, none⟩) y280.length co69) y283 := (by rw [hw, Ny283.out]; exact HP74.1); clear HP74; have n0_ := Aside0.mk (Kd.V_afterv (v := (.slice (some ⟨go69, 0, none⟩) y280.length co69)) (v1 := (.slice (some ⟨go69, 0, none⟩) y280.length co69)) (ok := (fun k_ => (P1_ k_ ∨ w.heap.size ≤ k_) ∧ k_ ≠ gb269 ∧ k_ ≠ gb271 ∧ k_ ≠ gb274)) (by (with_reducible repeat (first | apply Kd.V_alloc | apply Kd.V_drewN | apply Kd.V_drew)); exact HO_1.out) hg (.inl rfl)); have n1_ := Aside0.mk (blk_grown (g := gb269) (o := .cells #[.slice A0_0 l0_0.length c0_0, .slice (some ad270) l0_1.length c0_1] 25 (0, 0)) (by (with_reducible repeat (first | refine blk_drewN ?_ _ | refine blk_drew ?_ | refine blk_alloc ?_ _)); exact BK269.out) hg (Kd.R_ne HO282.out BK269.out (by decide))); have n2_ := Aside0.mk (blk_grown (g := gb271) (o := .cells #[.slice (some ad273) ((rd_T43 l0_1 x7_1).f0).length c270_0, .int .i64 ((rd_T43 l0_1 x7_1).f1)] 43 (0, 0)) (by (with_reducible repeat (first | refine blk_drewN ?_ _ | refine blk_drew ?_ | refine blk_alloc ?_ _)); exact BK271.out) hg (Kd.R_ne HO282.out BK271.out (by decide))); have n3_ := Aside0.mk (blk_grown (g := gb274) (o := .cells #[.int .i64 ((rd_T45 ((rd_T43 l0_1 x7_1).f0) x10_2).f0), .int .i64 ((rd_T45 ((rd_T43 l0_1 x7_1).f0) x10_2).f1)] 45 (0, 0)) (by (with_reducible repeat (first | refine blk_drewN ?_ _ | refine blk_drew ?_ | refine blk_alloc ?_ _)); exact BK274.out) hg (Kd.R_ne HO282.out BK274.out (by decide))); have n4_ := Aside0.mk (hp_); have n5_ := Aside0.mk ((by rw [hw]; exact below_set (HB.out) GB69.out : Below w.heap.size w w75)); clear HO_1; clear BK269; clear BK271; clear BK274; clear HO282; clear HB; have HO_1 := n0_; have BK269 := n1_; have BK271 := n2_; have BK274 := n3_; have HO282 := n4_; have HB := n5_; clear n0_ n1_ n2_ n3_ n4_ n5_; clear hg hw hp_))
                        go_ret3
                        exact ⟨_, by first | rfl | (simp [errW_none, errW_some] <;> rfl) | (simp [*, errW_none, errW_some] <;> rfl), Kd.V_mono (Kd.R_V (by (with_reducible repeat (first | apply Kd.R_alloc | apply Kd.R_drewN | apply Kd.R_drew)); exact HO282.out)) (fun k_ hk => by first | exact ⟨(.inr (hk.1)), hk.2⟩ | exact (.inr (hk))), by repeat (first | (with_reducible first | exact HB.out | apply below_alloc | apply pw_below_drewN | apply below_drew1 | refine below_set ?_ GE269.out | refine below_set ?_ GE271.out | refine below_set ?_ GE274.out) | exact HB.out)⟩
                       ·rw [if_neg c68] at H
                        exact absurd H (by simp)
                      ·rw [if_neg c67] at H
                       exact absurd H (by simp)
                     ·rw [if_neg c66] at H
                      exact absurd H (by simp)
                    ·rw [if_neg c65] at H
                     have c65b0 : decide (0 ≤ x12_40) = false := decide_eq_false c65
                     (try simp only [hl1_1, hl1_2] at c65b0)
                     clear c65
                     have H' := Aside0.mk H
                     clear H
                     go_wp2
                     (try simp only [← hl1_2])
                     go_roundg kj42
                     case measure => have := HK1.out; have := HK2.out; have := HJ24.out; have := HJ40.out; have := HJ42.out; omega
                     case rel => exact ⟨(x1_2), (wrap64 (x10_2 + 1)), (by first | rfl | (simp; done) | (simp [*]; done)), H', ⟨by have := HK1.out; have := HK2.out; have := HJ24.out; have := HJ40.out; have := HJ42.out; omega⟩, ⟨by (try simp only [hl1_1]); (try simp only [hl1_2]); (with_reducible repeat (first | apply Kd.V_alloc | apply Kd.V_drewN | apply Kd.V_drew)); exact Kd.V_mono HO_1.out (fun _ hk => ⟨hk.1, ⟨hk.2.1, hk.2.2.1⟩⟩)⟩, ⟨by (try simp only [hl1_1]); (try simp only [hl1_2]); (with_reducible repeat (first | refine blk_drewN ?_ _ | refine blk_drew ?_ | refine blk_alloc ?_ _)); exact BK269.out⟩, ⟨by (try simp only [hl1_1]); (try simp only [hl1_2]); (with_reducible repeat (first | refine blk_drewN ?_ _ | refine blk_drew ?_ | refine blk_alloc ?_ _)); exact BK271.out⟩, ⟨by repeat (first | (with_reducible first | exact HB.out | apply below_alloc | apply pw_below_drewN | apply below_drew1 | refine below_set ?_ GE269.out | refine below_set ?_ GE271.out | refine below_set ?_ GE274.out) | exact HB.out)⟩⟩
            ·rw [if_neg c24] at H
             have c24b0 : ((rd x1_2 ((rd_T45 ((rd_T43 l0_1 x7_1).f0) x10_2).f0)) == (-1)) = false := beq_eq_false_iff_ne.mpr c24
             have c24b1 : ((rd x1_2 ((rd_T45 ((rd_T43 l0_1 x7_1).f0) x10_2).f0)) != (-1)) = true := bne_iff_ne.mpr c24
             (try simp only [hl1_1, hl1_2] at c24b0)
             (try simp only [hl1_1, hl1_2] at c24b1)
             have H' := Aside0.mk H
             clear H
             have hnb76 := NB271_269.out
             have hnc76 := NB269_271.out
             have hcz77_0 : wr.cell? ⟨gb271, 0, none⟩ = some (.slice A270_0 ((rd_T43 l0_1 x7_1).f0).length c270_0) := (blk_cell BK271.out 0).trans rfl
             have hcz77_1 : wr.cell? ⟨gb271, 1, none⟩ = some (.int .i64 ((rd_T43 l0_1 x7_1).f1)) := (blk_cell BK271.out 1).trans rfl
             have hfz77_0 := blk_frozen BK271.out 0
             have hfz77_1 := blk_frozen BK271.out 1
             have p273 : 0 ≤ (x10_2 : Int) := of_decide_eq_true (by first | (with_reducible assumption) | assumption)
             have q273 : x10_2 < (((rd_T43 l0_1 x7_1).f0).length : Int) := of_decide_eq_true (by first | (with_reducible assumption) | assumption)
             obtain ⟨ad273, e273, hx273_0, hx273_1⟩ := at_T45 HR270_0.out x10_2 p273 q273
             cases e273
             replace hx273_0 := (HB.out.cell (World.block_lt_of_cell? w _ hx273_0)).trans hx273_0
             replace hx273_1 := (HB.out.cell (World.block_lt_of_cell? w _ hx273_1)).trans hx273_1
             replace p273 := eq_true p273
             replace q273 := eq_true q273
             go_wp2_with (first | ((with_reducible refine gate_dst (N := 11) rfl ?_); refine box_event ?hg (N := 11) ?hd (cs := #[.int .i64 0, .int .i64 0]) (t := 45) ?hr ?_; (case hd => rfl); (case hg => rfl); (case hr => first | (go_simp; done) | (go_simp; rfl)); intro gb274 hg w78 hbox hb; have n0_ := Aside0.mk (Kd.V_below (Kd.V_elderB (by (with_reducible repeat (first | apply Kd.V_alloc | apply Kd.V_drewN | apply Kd.V_drew)); exact HO_1.out) gb274 (Nat.le_of_eq hg.symm)) hb); have n1_ := Aside0.mk (blk_below (g := gb269) (o := .cells #[.slice A0_0 l0_0.length c0_0, .slice (some ad270) l0_1.length c0_1] 25 (0, 0)) (by (with_reducible repeat (first | refine blk_drewN ?_ _ | refine blk_drew ?_ | refine blk_alloc ?_ _)); exact BK269.out) hb); have n2_ := Aside0.mk (blk_below (g := gb271) (o := .cells #[.slice (some ad273) ((rd_T43 l0_1 x7_1).f0).length c270_0, .int .i64 ((rd_T43 l0_1 x7_1).f1)] 43 (0, 0)) (by (with_reducible repeat (first | refine blk_drewN ?_ _ | refine blk_drew ?_ | refine blk_alloc ?_ _)); exact BK271.out) hb); have n3_ := Aside0.mk (below_step (by repeat (first | (with_reducible first | exact HB.out | apply below_alloc | apply pw_below_drewN | apply below_drew1 | refine below_set ?_ GE269.out | refine below_set ?_ GE271.out) | exact HB.out)) hb); have n4_ := Aside0.mk (hbox); have n5_ := Aside0.mk ((by rw [hg]; exact (below_size (by repeat (first | (with_reducible first | exact HB.out | apply below_alloc | apply pw_below_drewN | apply below_drew1 | refine below_set ?_ GE269.out | refine below_set ?_ GE271.out) | exact HB.out))) : w.heap.size ≤ gb274)); have n6_ := Aside0.mk ((by rw [hg]; exact (below_size (by repeat (first | (with_reducible first | exact HB.out | apply below_alloc | apply pw_below_drewN | apply below_drew1 | refine below_set ?_ GE269.out | refine below_set ?_ GE271.out) | exact HB.out))) : w.heap.size ≤ gb274)); have n7_ := Aside0.mk ((by rw [hg]; exact Nat.ne_of_lt (blk_lt (g := gb269) (o := .cells #[.slice A0_0 l0_0.length c0_0, .slice (some ad270) l0_1.length c0_1] 25 (0, 0)) (by (with_reducible repeat (first | refine blk_drewN ?_ _ | refine blk_drew ?_ | refine blk_alloc ?_ _)); exact BK269.out)) : gb269 ≠ gb274)); have n8_ := Aside0.mk ((by rw [hg]; exact Nat.ne_of_gt (blk_lt (g := gb269) (o := .cells #[.slice A0_0 l0_0.length c0_0, .slice (some ad270) l0_1.length c0_1] 25 (0, 0)) (by (with_reducible repeat (first | refine blk_drewN ?_ _ | refine blk_drew ?_ | refine blk_alloc ?_ _)); exact BK269.out)) : gb274 ≠ gb269)); have n9_ := Aside0.mk ((by rw [hg]; exact Nat.ne_of_lt (blk_lt (g := gb271) (o := .cells #[.slice (some ad273) ((rd_T43 l0_1 x7_1).f0).length c270_0, .int .i64 ((rd_T43 l0_1 x7_1).f1)] 43 (0, 0)) (by (with_reducible repeat (first | refine blk_drewN ?_ _ | refine blk_drew ?_ | refine blk_alloc ?_ _)); exact BK271.out)) : gb271 ≠ gb274)); have n10_ := Aside0.mk ((by rw [hg]; exact Nat.ne_of_gt (blk_lt (g := gb271) (o := .cells #[.slice (some ad273) ((rd_T43 l0_1 x7_1).f0).length c270_0, .int .i64 ((rd_T43 l0_1 x7_1).f1)] 43 (0, 0)) (by (with_reducible repeat (first | refine blk_drewN ?_ _ | refine blk_drew ?_ | refine blk_alloc ?_ _)); exact BK271.out)) : gb274 ≠ gb271)); clear HO_1; clear BK269; clear BK271; clear HB; have HO_1 := n0_; have BK269 := n1_; have BK271 := n2_; have HB := n3_; have BK274 := n4_; have GW274 := n5_; have GE274 := n6_; have NB269_274 := n7_; have NB274_269 := n8_; have NB271_274 := n9_; have NB274_271 := n10_; clear n0_ n1_ n2_ n3_ n4_ n5_ n6_ n7_ n8_ n9_ n10_; clear hb hbox hg; have hnb79 := NB274_269.out; have hnc79 := NB269_274.out; have hnb80 := NB274_271.out; have hnc80 := NB271_274.out; have hcz81_0 : w78.cell? ⟨gb274, 0, none⟩ = some (.int .i64 0) := (blk_cell BK274.out 0).trans rfl; have hcz81_1 : w78.cell? ⟨gb274, 1, none⟩ = some (.int .i64 0) := (blk_cell BK274.out 1).trans rfl; have hfz81_0 := blk_frozen BK274.out 0; have hfz81_1 := blk_frozen BK274.out 1; have p275 : 0 ≤ (((rd_T45 ((rd_T43 l0_1 x7_1).f0) x10_2).f0) : Int) := of_decide_eq_true (by first | (with_reducible assumption) | assumption); have q275 : ((rd_T45 ((rd_T43 l0_1 x7_1).f0) x10_2).f0) < (x1_2.length : Int) := of_decide_eq_true (by first | (with_reducible assumption) | assumption); obtain ⟨ad275, e275, hx275_0⟩ := Kd.at_int (Kd.V_reads' (Kd.V_far (p := ⟨gb274, 1, none⟩) (Kd.V_far (p := ⟨gb274, 0, none⟩) (Kd.V_mono HO_1.out (fun k_ hk => (⟨hk, hk.2⟩ : _ ∧ k_ ≠ gb274))) (fun _ hk => hk.2) (.int .i64 ((rd_T45 ((rd_T43 l0_1 x7_1).f0) x10_2).f0))) (fun _ hk => hk.2) (.int .i64 ((rd_T45 ((rd_T43 l0_1 x7_1).f0) x10_2).f1)))).2.2 ((rd_T45 ((rd_T43 l0_1 x7_1).f0) x10_2).f0) p275 q275; cases e275; replace p275 := eq_true p275; replace q275 := eq_true q275))
             (try simp only [← hl1_2])
             go_roundg k2
             case measure => have := HK1.out; have := HK2.out; omega
             case rel => exact ⟨(x1_2), (wrap64 (x10_2 + 1)), (by first | rfl | (simp; done) | (simp [*]; done)), H', ⟨by have := HK1.out; have := HK2.out; omega⟩, ⟨by (try simp only [hl1_1]); (try simp only [hl1_2]); (with_reducible repeat (first | apply Kd.V_alloc | apply Kd.V_drewN | apply Kd.V_drew)); exact Kd.V_mono (Kd.V_far (p := ⟨gb274, 1, none⟩) (Kd.V_far (p := ⟨gb274, 0, none⟩) (Kd.V_mono HO_1.out (fun k_ hk => (⟨hk, hk.2⟩ : _ ∧ k_ ≠ gb274))) (fun _ hk => hk.2) (.int .i64 ((rd_T45 ((rd_T43 l0_1 x7_1).f0) x10_2).f0))) (fun _ hk => hk.2) (.int .i64 ((rd_T45 ((rd_T43 l0_1 x7_1).f0) x10_2).f1))) (fun _ hk => ⟨hk.1.1.1, ⟨hk.1.1.2.1, hk.1.1.2.2⟩⟩)⟩, ⟨by (try simp only [hl1_1]); (try simp only [hl1_2]); (with_reducible repeat (first | refine blk_drewN ?_ _ | refine blk_drew ?_ | refine blk_alloc ?_ _)); refine blk_far ?_ NB269_274.out _; (with_reducible repeat (first | refine blk_drewN ?_ _ | refine blk_drew ?_ | refine blk_alloc ?_ _)); refine blk_far ?_ NB269_274.out _; (with_reducible repeat (first | refine blk_drewN ?_ _ | refine blk_drew ?_ | refine blk_alloc ?_ _)); exact BK269.out⟩, ⟨by (try simp only [hl1_1]); (try simp only [hl1_2]); (with_reducible repeat (first | refine blk_drewN ?_ _ | refine blk_drew ?_ | refine blk_alloc ?_ _)); refine blk_far ?_ NB271_274.out _; (with_reducible repeat (first | refine blk_drewN ?_ _ | refine blk_drew ?_ | refine blk_alloc ?_ _)); refine blk_far ?_ NB271_274.out _; (with_reducible repeat (first | refine blk_drewN ?_ _ | refine blk_drew ?_ | refine blk_alloc ?_ _)); exact BK271.out⟩, ⟨by repeat (first | (with_reducible first | exact HB.out | apply below_alloc | apply pw_below_drewN | apply below_drew1 | refine below_set ?_ GE269.out | refine below_set ?_ GE271.out | refine below_set ?_ GE274.out) | exact HB.out)⟩⟩
           ·rw [if_neg c23] at H
            exact absurd H (by simp)
          ·rw [if_neg c22] at H
           exact absurd H (by simp)
         ·rw [if_neg c21] at H
          exact absurd H (by simp)
        ·rw [if_neg c20] at H
         have c20b0 : decide (x10_2 < (((rd_T43 l0_1 x7_1).f0).length : Int)) = false := decide_eq_false c20
         (try simp only [hl1_1, hl1_2] at c20b0)
         clear c20
         have H' := Aside0.mk H
         clear H
         have hnb82 := NB271_269.out
         have hnc82 := NB269_271.out
         have hcz83_0 : wr.cell? ⟨gb271, 0, none⟩ = some (.slice A270_0 ((rd_T43 l0_1 x7_1).f0).length c270_0) := (blk_cell BK271.out 0).trans rfl
         have hcz83_1 : wr.cell? ⟨gb271, 1, none⟩ = some (.int .i64 ((rd_T43 l0_1 x7_1).f1)) := (blk_cell BK271.out 1).trans rfl
         have hfz83_0 := blk_frozen BK271.out 0
         have hfz83_1 := blk_frozen BK271.out 1
         go_wp2
         (try simp only [← hl1_1, ← hl1_2])
         go_roundg k2
         case measure => have := HK1.out; have := HK2.out; omega
         case rel => exact ⟨(x1_2), (wrap64 (x7_1 + 1)), (by first | rfl | (simp; done) | (simp [*]; done)), H', ⟨by have := HK1.out; have := HK2.out; omega⟩, ⟨by (try simp only [hl1_1]); (try simp only [hl1_2]); (with_reducible repeat (first | apply Kd.V_alloc | apply Kd.V_drewN | apply Kd.V_drew)); exact Kd.V_mono HO_1.out (fun _ hk => ⟨hk.1, hk.2.1⟩)⟩, ⟨by (try simp only [hl1_1]); (try simp only [hl1_2]); (with_reducible repeat (first | refine blk_drewN ?_ _ | refine blk_drew ?_ | refine blk_alloc ?_ _)); exact BK269.out⟩, ⟨by repeat (first | (with_reducible first | exact HB.out | apply below_alloc | apply pw_below_drewN | apply below_drew1 | refine below_set ?_ GE269.out | refine below_set ?_ GE271.out) | exact HB.out)⟩⟩
    ·rw [if_neg c5] at H
     exact absurd H (by simp)
   ·rw [if_neg c4] at H
    have c4b0 : decide (x7_1 < (l0_1.length : Int)) = false := decide_eq_false c4
    (try simp only [hl1_1] at c4b0)
    clear c4
    simp only [Option.some.injEq, Prod.mk.injEq] at H
    obtain ⟨rfl, rfl, rfl⟩ := H
    have hcz84_0 : wr.cell? ⟨gb269, 0, none⟩ = some (.slice A0_0 l0_0.length c0_0) := (blk_cell BK269.out 0).trans rfl
    have hcz84_1 : wr.cell? ⟨gb269, 1, none⟩ = some (.slice A0_1 l0_1.length c0_1) := (blk_cell BK269.out 1).trans rfl
    have hfz84_0 := blk_frozen BK269.out 0
    have hfz84_1 := blk_frozen BK269.out 1
    go_wp2
    go_ret3
    exact ⟨_, by first | rfl | (simp [errW_none, errW_some] <;> rfl) | (simp [*, errW_none, errW_some] <;> rfl), by (with_reducible repeat (first | apply Kd.V_alloc | apply Kd.V_drewN | apply Kd.V_drew)); exact Kd.V_mono HO_1.out (fun _ hk => hk.1), by repeat (first | (with_reducible first | exact HB.out | apply below_alloc | apply pw_below_drewN | apply below_drew1 | refine below_set ?_ GE269.out) | exact HB.out)⟩

end Go.Proofs.Ytiigmklolapckaa.QAll
