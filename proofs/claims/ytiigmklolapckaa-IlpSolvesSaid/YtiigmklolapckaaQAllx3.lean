/- What functions of the translation compute, and that the machine's calls of them come to that: printed by this session's own program, a variant of the print. No condition. -/
import Derived.Test.YtiigmklolapckaaQAllx0
import Derived.Test.YtiigmklolapckaaQAllx2
namespace Go.Proofs.Ytiigmklolapckaa.QAll
open Go.RowKit Go.Proofs.YtiigmklolapckaaW.PrintWords Go.Proofs.YtiigmklolapckaaW.PrintLast Go.Proofs.YtiigmklolapckaaW.PrintMore
attribute [local go_sem] max2_int min2_int max_two min_two max_three min_three max_four min_four   -- for this text's walks alone
set_option linter.unusedVariables false
set_option linter.unusedSimpArgs false

/-! ### ilp_force: function 38 -/
mutual
def ilp_force.l0 : Nat → List Int → Int → List (S45) → Int → Int → List (S45) → Int → Option (Bool × Bool × List Int)
 | 0, _, _, _, _, _, _, _ => none
 | k + 1, x1, x6, x17, x18, x19, x126000, x126001 => if x19 < x18 then (if 0 ≤ x19 then (if x19 < (x17.length : Int) then (if 0 ≤ ((rd_T45 x17 x19).f0) then (if ((rd_T45 x17 x19).f0) < (x1.length : Int) then (if (rd x1 ((rd_T45 x17 x19).f0)) = (-1) then (if ((rd_T45 x17 x19).f1) > 0 then (ilp_force.j1 k x1 x6 x17 x18 x19 (decide ((wrap64 (x6 - ((rd_T45 x17 x19).f1))) < x126001)) x126000 x126001 ((rd_T45 x17 x19).f0) ((rd_T45 x17 x19).f1)) else (ilp_force.j1 k x1 x6 x17 x18 x19 false x126000 x126001 ((rd_T45 x17 x19).f0) ((rd_T45 x17 x19).f1))) else (ilp_force.l0 k x1 x6 x17 x18 (wrap64 (x19 + 1)) x126000 x126001)) else (none)) else (none)) else (none)) else (none)) else (some (true, true, x1))
def ilp_force.j1 : Nat → List Int → Int → List (S45) → Int → Int → Bool → List (S45) → Int → Int → Int → Option (Bool × Bool × List Int)
 | 0, _, _, _, _, _, _, _, _, _, _ => none
 | k + 1, x1, x6, x17, x18, x19, x40, x126000, x126001, x129000, x129001 => if x40 = true then (if 0 ≤ x129000 then (if x129000 < (x1.length : Int) then (some (false, true, (x1.set (x129000 : Int).toNat 1))) else (none)) else (none)) else (if x129001 < 0 then (if (wrap64 (x6 + x129001)) < x126001 then (if 0 ≤ x129000 then (if x129000 < (x1.length : Int) then (some (false, true, (x1.set (x129000 : Int).toNat 0))) else (none)) else (none)) else (ilp_force.l0 k x1 x6 x17 x18 (wrap64 (x19 + 1)) x126000 x126001)) else (ilp_force.l0 k x1 x6 x17 x18 (wrap64 (x19 + 1)) x126000 x126001))
end
def ilp_force.f (k : Nat) (l0_0 : List (S45)) (a0_1 : Int) (l1 : List Int) : Option (Bool × Bool × List Int) := (ilp_reach.f k l0_0 a0_1 l1).bind fun t126 => (if t126 < a0_1 then (some (true, false, l1)) else (ilp_force.l0 k l1 t126 l0_0 (l0_0.length : Int) 0 l0_0 a0_1))
theorem ilp_force.mono_l : ∀ k, (∀ y0 y1 y2 y3 y4 y5 y6, LeO (ilp_force.l0 k y0 y1 y2 y3 y4 y5 y6) (ilp_force.l0 (k + 1) y0 y1 y2 y3 y4 y5 y6)) ∧ (∀ y0 y1 y2 y3 y4 y5 y6 y7 y8 y9, LeO (ilp_force.j1 k y0 y1 y2 y3 y4 y5 y6 y7 y8 y9) (ilp_force.j1 (k + 1) y0 y1 y2 y3 y4 y5 y6 y7 y8 y9))
 | 0 => ⟨fun _ _ _ _ _ _ _ r h => by simp [ilp_force.l0] at h, fun _ _ _ _ _ _ _ _ _ _ r h => by simp [ilp_force.j1] at h⟩
 | k + 1 => by
  obtain ⟨ih0, ih1⟩ := ilp_force.mono_l k
  refine ⟨?_, ?_⟩
  ·intro y0 y1 y2 y3 y4 y5 y6
   unfold ilp_force.l0
   repeat' first
   | (with_reducible exact ih0 _ _ _ _ _ _ _)
   | (with_reducible exact ih1 _ _ _ _ _ _ _ _ _ _)
   | (with_reducible exact ilp_reach.mono _ _ _ _)
   | (with_reducible exact LeO.refl _)
   | (with_reducible exact LeO.none _)
   | (with_reducible refine LeO.ite ?_ ?_)
   | (with_reducible refine LeO.bind ?_ (fun _ => ?_))
   | exact ih0 _ _ _ _ _ _ _
   | exact ih1 _ _ _ _ _ _ _ _ _ _
   | exact ilp_reach.mono _ _ _ _
   | exact LeO.none _
   | refine LeO.ite ?_ ?_
   | refine LeO.bind ?_ (fun _ => ?_)
  ·intro y0 y1 y2 y3 y4 y5 y6 y7 y8 y9
   unfold ilp_force.j1
   repeat' first
   | (with_reducible exact ih0 _ _ _ _ _ _ _)
   | (with_reducible exact ih1 _ _ _ _ _ _ _ _ _ _)
   | (with_reducible exact ilp_reach.mono _ _ _ _)
   | (with_reducible exact LeO.refl _)
   | (with_reducible exact LeO.none _)
   | (with_reducible refine LeO.ite ?_ ?_)
   | (with_reducible refine LeO.bind ?_ (fun _ => ?_))
   | exact ih0 _ _ _ _ _ _ _
   | exact ih1 _ _ _ _ _ _ _ _ _ _
   | exact ilp_reach.mono _ _ _ _
   | exact LeO.none _
   | refine LeO.ite ?_ ?_
   | refine LeO.bind ?_ (fun _ => ?_)
theorem ilp_force.mono : ∀ a0 a1 a2 k, LeO (ilp_force.f k a0 a1 a2) (ilp_force.f (k + 1) a0 a1 a2) := by
 intro a0 a1 a2 k
 obtain ⟨ih0, ih1⟩ := ilp_force.mono_l k
 unfold ilp_force.f
 repeat' first
   | (with_reducible exact ih0 _ _ _ _ _ _ _)
   | (with_reducible exact ih1 _ _ _ _ _ _ _ _ _ _)
   | (with_reducible exact ilp_reach.mono _ _ _ _)
   | (with_reducible exact LeO.refl _)
   | (with_reducible exact LeO.none _)
   | (with_reducible refine LeO.ite ?_ ?_)
   | (with_reducible refine LeO.bind ?_ (fun _ => ?_))
   | exact ih0 _ _ _ _ _ _ _
   | exact ih1 _ _ _ _ _ _ _ _ _ _
   | exact ilp_reach.mono _ _ _ _
   | exact LeO.none _
   | refine LeO.ite ?_ ?_
   | refine LeO.bind ?_ (fun _ => ?_)
set_option maxHeartbeats 8000000 in
set_option maxRecDepth 100000 in
theorem ilp_force.calls (k : Nat) (A0_0 : Option Addr) (c0_0 : Nat) (l0_0 : List (S45)) (a0_1 : Int) (P1_ : Nat → Prop) (u9000_ : Value) (l1 : List Int) (r1 : Bool) (r2 : Bool) (r3 : List Int) (w0 w : World) (hB : Below w0.heap.size w0 w) (hr0_0 : ∀ W_, Kept w W_ (fun k_ => P1_ k_) → Kd.C k45 W_ A0_0 l0_0.length l0_0) (hc0_0 : l0_0.length ≤ c0_0) (ho1 : Kd.R (Kd.int .i64) 3 w w0.heap.size P1_ u9000_ l1) (h : ilp_force.f k l0_0 a0_1 l1 = some (r1, r2, r3)) :
  Calls Try.prog 38 #[.agg #[.slice A0_0 l0_0.length c0_0, .int .i64 a0_1], u9000_] w fun e w' => e = .returned (.tuple #[.bool r1, .bool r2]) ∧ Kd.R (Kd.int .i64) 3 w' w0.heap.size (fun k_ => (P1_ k_ ∨ w.heap.size ≤ k_)) u9000_ r3 ∧ Below w0.heap.size w0 w' ∧ Kept w w' (fun k_ => P1_ k_) := by
 have hu43 := Try.underlying43
 have hu45 := Try.underlying45
 have HR0_0 := Aside0.mk hr0_0
 have HC0_0 := Aside0.mk hc0_0
 clear hr0_0 hc0_0
 have HO1 := Aside0.mk (show Kd.R (Kd.int .i64) 3 w w0.heap.size (fun k_ => (P1_ k_ ∨ w.heap.size ≤ k_)) u9000_ l1 from Kd.R_mono ho1 (fun k_ hk => (.inl hk)))
 have HK := Aside0.mk (Kept.refl w (fun k_ => P1_ k_))
 have HW0 := Aside0.mk hB.size
 have HB := Aside0.mk hB
 clear hB
 have H : ((ilp_reach.f k l0_0 a0_1 l1).bind fun t126 => (if t126 < a0_1 then (some (true, false, l1)) else (ilp_force.l0 k l1 t126 l0_0 (l0_0.length : Int) 0 l0_0 a0_1))) = some (r1, r2, r3) := h
 clear h
 replace H := Option.bind_eq_some_iff.mp H
 obtain ⟨t126, A30, H⟩ := H
 replace H : (if t126 < a0_1 then (some (true, false, l1)) else (ilp_force.l0 k l1 t126 l0_0 (l0_0.length : Int) 0 l0_0 a0_1)) = some (r1, r2, r3) := H
 have A3 := Aside0.mk A30
 clear A30
 by_cases c4 : t126 < a0_1
 ·rw [if_pos c4] at H
  have c4b0 : decide (t126 < a0_1) = true := decide_eq_true c4
  clear c4
  simp only [Option.some.injEq, Prod.mk.injEq] at H
  obtain ⟨rfl, rfl, rfl⟩ := H
  go_enter Try.func38, Try.ntmps38
  go_wp2_with (first | ((with_reducible refine gate_dst (N := 2) rfl ?_); refine box_event ?hg (N := 2) ?hd (cs := #[.slice A0_0 l0_0.length c0_0, .int .i64 a0_1]) (t := 43) ?hr ?_; (case hd => rfl); (case hg => rfl); (case hr => first | (go_simp; done) | (go_simp; rfl)); intro gb125 hg w5 hbox hb; have n0_ := Aside0.mk (Kd.R_below (by (with_reducible repeat (first | apply Kd.R_alloc | apply Kd.R_drewN | apply Kd.R_drew)); exact HO1.out) hb); have n1_ := Aside0.mk (Kept.below (S := (fun k_ => P1_ k_)) (by repeat (first | (with_reducible first | exact HK.out | apply Kept.alloc | apply Kept.drewN | apply Kept.drew) | exact HK.out)) hb); have n2_ := Aside0.mk (below_step (by repeat (first | (with_reducible first | exact HB.out | apply below_alloc | apply pw_below_drewN | apply below_drew1) | exact HB.out)) hb); have n3_ := Aside0.mk (hbox); have n4_ := Aside0.mk ((by rw [hg]; exact (by first | exact HK.out.1 | exact (show Kept w _ (fun k_ => P1_ k_) from by repeat (first | (with_reducible first | exact HK.out | apply Kept.alloc | apply Kept.drewN | apply Kept.drew) | exact HK.out)).1) : w.heap.size ≤ gb125)); have n5_ := Aside0.mk ((by rw [hg]; exact (below_size (by repeat (first | (with_reducible first | exact HB.out | apply below_alloc | apply pw_below_drewN | apply below_drew1) | exact HB.out))) : w0.heap.size ≤ gb125)); clear HO1; clear HK; clear HB; have HO1 := n0_; have HK := n1_; have HB := n2_; have BK125 := n3_; have GW125 := n4_; have GE125 := n5_; clear n0_ n1_ n2_ n3_ n4_ n5_; clear hb hbox hg; have hcz6_0 : w5.cell? ⟨gb125, 0, none⟩ = some (.slice A0_0 l0_0.length c0_0) := (blk_cell BK125.out 0).trans rfl; have hcz6_1 : w5.cell? ⟨gb125, 1, none⟩ = some (.int .i64 a0_1) := (blk_cell BK125.out 1).trans rfl; have hfz6_0 := blk_frozen BK125.out 0; have hfz6_1 := blk_frozen BK125.out 1; obtain ⟨Ao7, co7, eo7⟩ := Kd.R_slice HO1.out; subst eo7) | ((with_reducible refine gate_callee (f := 40) rfl ?_); refine goesL_ (some 11) rfl rfl Try.func40 (by kernel_rfl) rfl #[.agg #[.slice A0_0 l0_0.length c0_0, .int .i64 a0_1], .slice Ao7 l1.length co7] rfl (by (try simp only [List.map_toArray, List.map_cons, List.map_nil]); first | done | rfl | (simp only [List.length_drop, List.length_take]; rfl)) ?_; (with_reducible refine (ilp_reach.calls k _ _ l0_0 a0_1 _ _ l1 t126 _ ?side1 ?side2 ?side3 ?side4 A3.out).mono ?_); (case side1 => exact Kd.C_kept_now HR0_0.out (by repeat (first | (with_reducible first | exact HK.out | apply Kept.alloc | apply Kept.drewN | apply Kept.drew | refine Kept.setCell ?_ (.inr GW125.out) _) | exact HK.out))); (case side2 => exact HC0_0.out); (case side3 => repeat (first | exact (Kd.R_reads' HO1.out).2.2 | (with_reducible refine Kd.C_alloc ?_ _) | (with_reducible refine Kd.C_drewN ?_ _) | (with_reducible refine Kd.C_drew ?_))); (case side4 => exact (Kd.R_reads' HO1.out).2.1); rintro e w8 ⟨rfl, hb⟩; refine ⟨_, rfl, ?_⟩; have n0_ := Aside0.mk (Kd.R_below (by (with_reducible repeat (first | apply Kd.R_alloc | apply Kd.R_drewN | apply Kd.R_drew)); exact HO1.out) hb); have n1_ := Aside0.mk (blk_below (g := gb125) (o := .cells #[.slice A0_0 l0_0.length c0_0, .int .i64 a0_1] 43 (0, 0)) (by (with_reducible repeat (first | refine blk_drewN ?_ _ | refine blk_drew ?_ | refine blk_alloc ?_ _)); exact BK125.out) hb); have n2_ := Aside0.mk (Kept.below (S := (fun k_ => P1_ k_)) (by repeat (first | (with_reducible first | exact HK.out | apply Kept.alloc | apply Kept.drewN | apply Kept.drew | refine Kept.setCell ?_ (.inr GW125.out) _) | exact HK.out)) hb); have n3_ := Aside0.mk (below_step (by repeat (first | (with_reducible first | exact HB.out | apply below_alloc | apply pw_below_drewN | apply below_drew1 | refine below_set ?_ GE125.out) | exact HB.out)) hb); clear HO1; clear BK125; clear HK; clear HB; have HO1 := n0_; have BK125 := n1_; have HK := n2_; have HB := n3_; clear n0_ n1_ n2_ n3_; (try clear hb); (try clear hb2); (try clear hk); (try clear hi); have hcz9_0 : w8.cell? ⟨gb125, 0, none⟩ = some (.slice A0_0 l0_0.length c0_0) := (blk_cell BK125.out 0).trans rfl; have hcz9_1 : w8.cell? ⟨gb125, 1, none⟩ = some (.int .i64 a0_1) := (blk_cell BK125.out 1).trans rfl; have hfz9_0 := blk_frozen BK125.out 0; have hfz9_1 := blk_frozen BK125.out 1))
  go_ret2
  exact ⟨by first | rfl | (simp [errW_none, errW_some] <;> rfl) | (simp [*, errW_none, errW_some] <;> rfl), by (with_reducible repeat (first | apply Kd.R_alloc | apply Kd.R_drewN | apply Kd.R_drew)); exact HO1.out, by repeat (first | (with_reducible first | exact HB.out | apply below_alloc | apply pw_below_drewN | apply below_drew1 | refine below_set ?_ GE125.out) | exact HB.out), by repeat (first | (with_reducible first | exact HK.out | apply Kept.alloc | apply Kept.drewN | apply Kept.drew | refine Kept.setCell ?_ (.inr GW125.out) _) | exact HK.out)⟩
 ·rw [if_neg c4] at H
  have c4b0 : decide (t126 < a0_1) = false := decide_eq_false c4
  clear c4
  have H' := Aside0.mk H
  clear H
  go_enter Try.func38, Try.ntmps38
  go_wp2_with (first | ((with_reducible refine gate_dst (N := 2) rfl ?_); refine box_event ?hg (N := 2) ?hd (cs := #[.slice A0_0 l0_0.length c0_0, .int .i64 a0_1]) (t := 43) ?hr ?_; (case hd => rfl); (case hg => rfl); (case hr => first | (go_simp; done) | (go_simp; rfl)); intro gb125 hg w10 hbox hb; have n0_ := Aside0.mk (Kd.R_below (by (with_reducible repeat (first | apply Kd.R_alloc | apply Kd.R_drewN | apply Kd.R_drew)); exact HO1.out) hb); have n1_ := Aside0.mk (Kept.below (S := (fun k_ => P1_ k_)) (by repeat (first | (with_reducible first | exact HK.out | apply Kept.alloc | apply Kept.drewN | apply Kept.drew) | exact HK.out)) hb); have n2_ := Aside0.mk (below_step (by repeat (first | (with_reducible first | exact HB.out | apply below_alloc | apply pw_below_drewN | apply below_drew1) | exact HB.out)) hb); have n3_ := Aside0.mk (hbox); have n4_ := Aside0.mk ((by rw [hg]; exact (by first | exact HK.out.1 | exact (show Kept w _ (fun k_ => P1_ k_) from by repeat (first | (with_reducible first | exact HK.out | apply Kept.alloc | apply Kept.drewN | apply Kept.drew) | exact HK.out)).1) : w.heap.size ≤ gb125)); have n5_ := Aside0.mk ((by rw [hg]; exact (below_size (by repeat (first | (with_reducible first | exact HB.out | apply below_alloc | apply pw_below_drewN | apply below_drew1) | exact HB.out))) : w0.heap.size ≤ gb125)); clear HO1; clear HK; clear HB; have HO1 := n0_; have HK := n1_; have HB := n2_; have BK125 := n3_; have GW125 := n4_; have GE125 := n5_; clear n0_ n1_ n2_ n3_ n4_ n5_; clear hb hbox hg; have hcz11_0 : w10.cell? ⟨gb125, 0, none⟩ = some (.slice A0_0 l0_0.length c0_0) := (blk_cell BK125.out 0).trans rfl; have hcz11_1 : w10.cell? ⟨gb125, 1, none⟩ = some (.int .i64 a0_1) := (blk_cell BK125.out 1).trans rfl; have hfz11_0 := blk_frozen BK125.out 0; have hfz11_1 := blk_frozen BK125.out 1; obtain ⟨Ao12, co12, eo12⟩ := Kd.R_slice HO1.out; subst eo12) | ((with_reducible refine gate_callee (f := 40) rfl ?_); refine goesL_ (some 11) rfl rfl Try.func40 (by kernel_rfl) rfl #[.agg #[.slice A0_0 l0_0.length c0_0, .int .i64 a0_1], .slice Ao12 l1.length co12] rfl (by (try simp only [List.map_toArray, List.map_cons, List.map_nil]); first | done | rfl | (simp only [List.length_drop, List.length_take]; rfl)) ?_; (with_reducible refine (ilp_reach.calls k _ _ l0_0 a0_1 _ _ l1 t126 _ ?side1 ?side2 ?side3 ?side4 A3.out).mono ?_); (case side1 => exact Kd.C_kept_now HR0_0.out (by repeat (first | (with_reducible first | exact HK.out | apply Kept.alloc | apply Kept.drewN | apply Kept.drew | refine Kept.setCell ?_ (.inr GW125.out) _) | exact HK.out))); (case side2 => exact HC0_0.out); (case side3 => repeat (first | exact (Kd.R_reads' HO1.out).2.2 | (with_reducible refine Kd.C_alloc ?_ _) | (with_reducible refine Kd.C_drewN ?_ _) | (with_reducible refine Kd.C_drew ?_))); (case side4 => exact (Kd.R_reads' HO1.out).2.1); rintro e w13 ⟨rfl, hb⟩; refine ⟨_, rfl, ?_⟩; have n0_ := Aside0.mk (Kd.R_below (by (with_reducible repeat (first | apply Kd.R_alloc | apply Kd.R_drewN | apply Kd.R_drew)); exact HO1.out) hb); have n1_ := Aside0.mk (blk_below (g := gb125) (o := .cells #[.slice A0_0 l0_0.length c0_0, .int .i64 a0_1] 43 (0, 0)) (by (with_reducible repeat (first | refine blk_drewN ?_ _ | refine blk_drew ?_ | refine blk_alloc ?_ _)); exact BK125.out) hb); have n2_ := Aside0.mk (Kept.below (S := (fun k_ => P1_ k_)) (by repeat (first | (with_reducible first | exact HK.out | apply Kept.alloc | apply Kept.drewN | apply Kept.drew | refine Kept.setCell ?_ (.inr GW125.out) _) | exact HK.out)) hb); have n3_ := Aside0.mk (below_step (by repeat (first | (with_reducible first | exact HB.out | apply below_alloc | apply pw_below_drewN | apply below_drew1 | refine below_set ?_ GE125.out) | exact HB.out)) hb); clear HO1; clear BK125; clear HK; clear HB; have HO1 := n0_; have BK125 := n1_; have HK := n2_; have HB := n3_; clear n0_ n1_ n2_ n3_; (try clear hb); (try clear hb2); (try clear hk); (try clear hi); have hcz14_0 : w13.cell? ⟨gb125, 0, none⟩ = some (.slice A0_0 l0_0.length c0_0) := (blk_cell BK125.out 0).trans rfl; have hcz14_1 : w13.cell? ⟨gb125, 1, none⟩ = some (.int .i64 a0_1) := (blk_cell BK125.out 1).trans rfl; have hfz14_0 := blk_frozen BK125.out 0; have hfz14_1 := blk_frozen BK125.out 1))
  go_loopg [19] k (fun kq v19 w' => ∃ (x1_1 : List Int) (x19_1 : Int), v19 = .int .i64 x19_1 ∧ Aside0 (ilp_force.l0 kq x1_1 t126 l0_0 (l0_0.length : Int) x19_1 l0_0 a0_1 = some (r1, r2, r3)) ∧ Aside0 (kq ≤ k) ∧ Aside0 (Kd.R (Kd.int .i64) 3 w' w0.heap.size (fun k_ => (P1_ k_ ∨ w.heap.size ≤ k_)) (.slice Ao12 l1.length co12) x1_1) ∧ Aside0 (w'.heap[gb125]? = some (.cells #[(.slice A0_0 l0_0.length c0_0), .int .i64 a0_1] 43 (0, 0))) ∧ Aside0 (Kept w w' (fun k_ => P1_ k_)) ∧ Aside0 (Below w0.heap.size w0 w'))
  case atStart => exact ⟨(l1), (0), (by first | rfl | (simp; done) | (simp [*]; done)), H', ⟨Nat.le_refl _⟩, ⟨by (with_reducible repeat (first | apply Kd.R_alloc | apply Kd.R_drewN | apply Kd.R_drew)); exact HO1.out⟩, ⟨by (with_reducible repeat (first | refine blk_drewN ?_ _ | refine blk_drew ?_ | refine blk_alloc ?_ _)); exact BK125.out⟩, ⟨by repeat (first | (with_reducible first | exact HK.out | apply Kept.alloc | apply Kept.drewN | apply Kept.drew | refine Kept.setCell ?_ (.inr GW125.out) _) | exact HK.out)⟩, ⟨by repeat (first | (with_reducible first | exact HB.out | apply below_alloc | apply pw_below_drewN | apply below_drew1 | refine below_set ?_ GE125.out) | exact HB.out)⟩⟩
  case round =>
   clear H'
   try clear p2
   try clear c3
   try clear c4
   try clear c4b0
   try clear hcz11_0
   try clear hcz11_1
   try clear hcz14_0
   try clear hcz14_1
   try clear hcz6_0
   try clear hcz6_1
   try clear hcz9_0
   try clear hcz9_1
   try clear hfz11_0
   try clear hfz11_1
   try clear hfz14_0
   try clear hfz14_1
   try clear hfz6_0
   try clear hfz6_1
   try clear hfz9_0
   try clear hfz9_1
   obtain ⟨x1_1, x19_1, rfl, HA, HK1, HO_1, BK125, HK, HB⟩ := hrel
   have hl1_1 := (Kd.R_reads' HO_1.out).1
   rw [hl1_1] at HO_1
   (try simp only [hl1_1])
   (try simp only [hl1_1] at BK125)
   cases gk with
   | zero => exact absurd HA.out (by simp [ilp_force.l0])
   | succ k1 =>
    have H := HA.out
    clear HA
    simp only [ilp_force.l0] at H
    by_cases c15 : x19_1 < (l0_0.length : Int)
    ·rw [if_pos c15] at H
     have c15b0 : decide (x19_1 < (l0_0.length : Int)) = true := decide_eq_true c15
     (try simp only [hl1_1] at c15b0)
     clear c15
     by_cases c16 : 0 ≤ x19_1
     ·rw [if_pos c16] at H
      have c16b0 : decide (0 ≤ x19_1) = true := decide_eq_true c16
      (try simp only [hl1_1] at c16b0)
      clear c16
      by_cases c17 : x19_1 < (l0_0.length : Int)
      ·rw [if_pos c17] at H
       have c17b0 : decide (x19_1 < (l0_0.length : Int)) = true := decide_eq_true c17
       (try simp only [hl1_1] at c17b0)
       clear c17
       by_cases c18 : 0 ≤ ((rd_T45 l0_0 x19_1).f0)
       ·rw [if_pos c18] at H
        have c18b0 : decide (0 ≤ ((rd_T45 l0_0 x19_1).f0)) = true := decide_eq_true c18
        (try simp only [hl1_1] at c18b0)
        clear c18
        by_cases c19 : ((rd_T45 l0_0 x19_1).f0) < (x1_1.length : Int)
        ·rw [if_pos c19] at H
         have c19b0 : decide (((rd_T45 l0_0 x19_1).f0) < (x1_1.length : Int)) = true := decide_eq_true c19
         (try simp only [hl1_1] at c19b0)
         clear c19
         by_cases c20 : (rd x1_1 ((rd_T45 l0_0 x19_1).f0)) = (-1)
         ·rw [if_pos c20] at H
          have c20b0 : ((rd x1_1 ((rd_T45 l0_0 x19_1).f0)) == (-1)) = true := beq_iff_eq.mpr c20
          have c20b1 : ((rd x1_1 ((rd_T45 l0_0 x19_1).f0)) != (-1)) = false := bne_eq_false_iff_eq.mpr c20
          (try simp only [hl1_1] at c20b0)
          (try simp only [hl1_1] at c20b1)
          clear c20
          have HC21 := Aside0.mk H
          clear H
          have p127 : 0 ≤ (x19_1 : Int) := of_decide_eq_true (by first | (with_reducible assumption) | assumption)
          have q127 : x19_1 < (l0_0.length : Int) := of_decide_eq_true (by first | (with_reducible assumption) | assumption)
          obtain ⟨ad127, e127, hx127_0, hx127_1⟩ := at_T45 (Kd.C_kept_now HR0_0.out HK.out) x19_1 p127 q127
          cases e127
          replace p127 := eq_true p127
          replace q127 := eq_true q127
          go_upto_region 8 with (first | ((with_reducible refine gate_dst (N := 8) rfl ?_); refine box_event ?hg (N := 8) ?hd (cs := #[.int .i64 0, .int .i64 0]) (t := 45) ?hr ?_; (case hd => rfl); (case hg => rfl); (case hr => first | (go_simp; done) | (go_simp; rfl)); intro gb128 hg w22 hbox hb; have n0_ := Aside0.mk (Kd.R_below (by (with_reducible repeat (first | apply Kd.R_alloc | apply Kd.R_drewN | apply Kd.R_drew)); exact HO_1.out) hb); have n1_ := Aside0.mk (blk_below (g := gb125) (o := .cells #[.slice (some ad127) l0_0.length c0_0, .int .i64 a0_1] 43 (0, 0)) (by (with_reducible repeat (first | refine blk_drewN ?_ _ | refine blk_drew ?_ | refine blk_alloc ?_ _)); exact BK125.out) hb); have n2_ := Aside0.mk (Kept.below (S := (fun k_ => P1_ k_)) (by repeat (first | (with_reducible first | exact HK.out | apply Kept.alloc | apply Kept.drewN | apply Kept.drew | refine Kept.setCell ?_ (.inr GW125.out) _) | exact HK.out)) hb); have n3_ := Aside0.mk (below_step (by repeat (first | (with_reducible first | exact HB.out | apply below_alloc | apply pw_below_drewN | apply below_drew1 | refine below_set ?_ GE125.out) | exact HB.out)) hb); have n4_ := Aside0.mk (hbox); have n5_ := Aside0.mk ((by rw [hg]; exact (by first | exact HK.out.1 | exact (show Kept w _ (fun k_ => P1_ k_) from by repeat (first | (with_reducible first | exact HK.out | apply Kept.alloc | apply Kept.drewN | apply Kept.drew | refine Kept.setCell ?_ (.inr GW125.out) _) | exact HK.out)).1) : w.heap.size ≤ gb128)); have n6_ := Aside0.mk ((by rw [hg]; exact (below_size (by repeat (first | (with_reducible first | exact HB.out | apply below_alloc | apply pw_below_drewN | apply below_drew1 | refine below_set ?_ GE125.out) | exact HB.out))) : w0.heap.size ≤ gb128)); have n7_ := Aside0.mk ((by rw [hg]; exact Nat.ne_of_lt (blk_lt (g := gb125) (o := .cells #[.slice (some ad127) l0_0.length c0_0, .int .i64 a0_1] 43 (0, 0)) (by (with_reducible repeat (first | refine blk_drewN ?_ _ | refine blk_drew ?_ | refine blk_alloc ?_ _)); exact BK125.out)) : gb125 ≠ gb128)); have n8_ := Aside0.mk ((by rw [hg]; exact Nat.ne_of_gt (blk_lt (g := gb125) (o := .cells #[.slice (some ad127) l0_0.length c0_0, .int .i64 a0_1] 43 (0, 0)) (by (with_reducible repeat (first | refine blk_drewN ?_ _ | refine blk_drew ?_ | refine blk_alloc ?_ _)); exact BK125.out)) : gb128 ≠ gb125)); clear HO_1; clear BK125; clear HK; clear HB; have HO_1 := n0_; have BK125 := n1_; have HK := n2_; have HB := n3_; have BK128 := n4_; have GW128 := n5_; have GE128 := n6_; have NB125_128 := n7_; have NB128_125 := n8_; clear n0_ n1_ n2_ n3_ n4_ n5_ n6_ n7_ n8_; clear hb hbox hg; have hnb23 := NB128_125.out; have hnc23 := NB125_128.out; have hcz24_0 : w22.cell? ⟨gb128, 0, none⟩ = some (.int .i64 0) := (blk_cell BK128.out 0).trans rfl; have hcz24_1 : w22.cell? ⟨gb128, 1, none⟩ = some (.int .i64 0) := (blk_cell BK128.out 1).trans rfl; have hfz24_0 := blk_frozen BK128.out 0; have hfz24_1 := blk_frozen BK128.out 1; have p129 : 0 ≤ (((rd_T45 l0_0 x19_1).f0) : Int) := of_decide_eq_true (by first | (with_reducible assumption) | assumption); have q129 : ((rd_T45 l0_0 x19_1).f0) < (x1_1.length : Int) := of_decide_eq_true (by first | (with_reducible assumption) | assumption); obtain ⟨ad129, e129, hx129_0⟩ := Kd.at_int (Kd.R_reads' HO_1.out).2.2 ((rd_T45 l0_0 x19_1).f0) p129 q129; cases e129; have hn129_0 : ad129.block ≠ gb128 := Kd.own_blk (Kd.R_ne HO_1.out BK128.out (by decide)); have hn129_1 : ad129.block ≠ gb128 := Kd.own_blk (Kd.R_ne HO_1.out BK128.out (by decide)); replace hx129_0 := (cell_far (p := ⟨gb128, 0, none⟩) (by first | (rw [add_block]; exact hn129_0) | (show (Addr.add _ _).block ≠ _; rw [add_block]; exact hn129_0) | exact hn129_0) (.int .i64 ((rd_T45 l0_0 x19_1).f0))).trans hx129_0; replace hx129_0 := (cell_far (p := ⟨gb128, 1, none⟩) (by first | (rw [add_block]; exact hn129_1) | (show (Addr.add _ _).block ≠ _; rw [add_block]; exact hn129_1) | exact hn129_1) (.int .i64 ((rd_T45 l0_0 x19_1).f1))).trans hx129_0; clear hn129_0; clear hn129_1; replace p129 := eq_true p129; replace q129 := eq_true q129))
          (try simp only [Act.put, List.setIfInBounds_toArray, List.set_cons_zero, List.set_cons_succ])
          go_cut [40] (fun v40 wc => ∃ (kq : Nat) (x40_20 : Bool), v40 = .bool x40_20 ∧ Aside0 (ilp_force.j1 kq x1_1 t126 l0_0 (l0_0.length : Int) x19_1 x40_20 l0_0 a0_1 ((rd_T45 l0_0 x19_1).f0) ((rd_T45 l0_0 x19_1).f1) = some (r1, r2, r3)) ∧ Aside0 (kq ≤ k1) ∧ Aside0 (Kd.R (Kd.int .i64) 3 wc w0.heap.size (fun k_ => (P1_ k_ ∨ w.heap.size ≤ k_)) (.slice (some ad129) x1_1.length co12) x1_1) ∧ Aside0 (wc.heap[gb125]? = some (.cells #[(.slice (some ad127) l0_0.length c0_0), .int .i64 a0_1] 43 (0, 0))) ∧ Aside0 (wc.heap[gb128]? = some (.cells #[.int .i64 ((rd_T45 l0_0 x19_1).f0), .int .i64 ((rd_T45 l0_0 x19_1).f1)] 45 (0, 0))) ∧ Aside0 (Kept w wc (fun k_ => P1_ k_)) ∧ Aside0 (Below w0.heap.size w0 wc))
          case first =>
           have H := HC21.out
           clear HC21
           by_cases c25 : ((rd_T45 l0_0 x19_1).f1) > 0
           ·rw [if_pos c25] at H
            have c25b0 : decide (0 < ((rd_T45 l0_0 x19_1).f1)) = true := decide_eq_true c25
            (try simp only [hl1_1] at c25b0)
            clear c25
            (first | rw [c25b0] | (simp only [i64_w, i32_w]; rw [c25b0]) | skip)
            have H' := Aside0.mk H
            clear H
            have hnb26 := NB128_125.out
            have hnc26 := NB125_128.out
            have hcz27_0 : w22.cell? ⟨gb128, 0, none⟩ = some (.int .i64 0) := (blk_cell BK128.out 0).trans rfl
            have hcz27_1 : w22.cell? ⟨gb128, 1, none⟩ = some (.int .i64 0) := (blk_cell BK128.out 1).trans rfl
            have hfz27_0 := blk_frozen BK128.out 0
            have hfz27_1 := blk_frozen BK128.out 1
            have hcz28_0 : w22.cell? ⟨gb125, 0, none⟩ = some (.slice (some ad127) l0_0.length c0_0) := (blk_cell BK125.out 0).trans rfl
            have hcz28_1 : w22.cell? ⟨gb125, 1, none⟩ = some (.int .i64 a0_1) := (blk_cell BK125.out 1).trans rfl
            have hfz28_0 := blk_frozen BK125.out 0
            have hfz28_1 := blk_frozen BK125.out 1
            go_wp2
            go_meet
            case rel => exact ⟨_, (decide ((wrap64 (t126 - ((rd_T45 l0_0 x19_1).f1))) < a0_1)), (by first | rfl | (simp; done) | (simp [*]; done)), H', ⟨by have := HK1.out; first | omega | exact Nat.le_refl _⟩, ⟨by (try simp only [hl1_1]); (with_reducible repeat (first | apply Kd.R_alloc | apply Kd.R_drewN | apply Kd.R_drew)); exact Kd.R_mono (Kd.R_far (p := ⟨gb128, 1, none⟩) (Kd.R_far (p := ⟨gb128, 0, none⟩) (Kd.R_types HO_1.out BK128.out (by decide)) (fun _ hk => hk.2) (.int .i64 ((rd_T45 l0_0 x19_1).f0))) (fun _ hk => hk.2) (.int .i64 ((rd_T45 l0_0 x19_1).f1))) (fun _ hk => hk.1)⟩, ⟨by (try simp only [hl1_1]); (with_reducible repeat (first | refine blk_drewN ?_ _ | refine blk_drew ?_ | refine blk_alloc ?_ _)); refine blk_far ?_ NB125_128.out _; (with_reducible repeat (first | refine blk_drewN ?_ _ | refine blk_drew ?_ | refine blk_alloc ?_ _)); refine blk_far ?_ NB125_128.out _; (with_reducible repeat (first | refine blk_drewN ?_ _ | refine blk_drew ?_ | refine blk_alloc ?_ _)); exact BK125.out⟩, ⟨by (try simp only [hl1_1]); (with_reducible repeat (first | refine blk_drewN ?_ _ | refine blk_drew ?_ | refine blk_alloc ?_ _)); refine blk_put (cs := #[.int .i64 ((rd_T45 l0_0 x19_1).f0), .int .i64 0]) ?_ 1 _ rfl; (with_reducible repeat (first | refine blk_drewN ?_ _ | refine blk_drew ?_ | refine blk_alloc ?_ _)); refine blk_put (cs := #[.int .i64 0, .int .i64 0]) ?_ 0 _ rfl; (with_reducible repeat (first | refine blk_drewN ?_ _ | refine blk_drew ?_ | refine blk_alloc ?_ _)); exact BK128.out⟩, ⟨by repeat (first | (with_reducible first | exact HK.out | apply Kept.alloc | apply Kept.drewN | apply Kept.drew | refine Kept.setCell ?_ (.inr GW125.out) _ | refine Kept.setCell ?_ (.inr GW128.out) _) | exact HK.out)⟩, ⟨by repeat (first | (with_reducible first | exact HB.out | apply below_alloc | apply pw_below_drewN | apply below_drew1 | refine below_set ?_ GE125.out | refine below_set ?_ GE128.out) | exact HB.out)⟩⟩
           ·rw [if_neg c25] at H
            have c25b0 : decide (0 < ((rd_T45 l0_0 x19_1).f1)) = false := decide_eq_false c25
            (try simp only [hl1_1] at c25b0)
            clear c25
            (first | rw [c25b0] | (simp only [i64_w, i32_w]; rw [c25b0]) | skip)
            have H' := Aside0.mk H
            clear H
            have hnb29 := NB128_125.out
            have hnc29 := NB125_128.out
            have hcz30_0 : w22.cell? ⟨gb128, 0, none⟩ = some (.int .i64 0) := (blk_cell BK128.out 0).trans rfl
            have hcz30_1 : w22.cell? ⟨gb128, 1, none⟩ = some (.int .i64 0) := (blk_cell BK128.out 1).trans rfl
            have hfz30_0 := blk_frozen BK128.out 0
            have hfz30_1 := blk_frozen BK128.out 1
            go_wp2
            go_meet
            case rel => exact ⟨_, (false), (by first | rfl | (simp; done) | (simp [*]; done)), H', ⟨by have := HK1.out; first | omega | exact Nat.le_refl _⟩, ⟨by (try simp only [hl1_1]); (with_reducible repeat (first | apply Kd.R_alloc | apply Kd.R_drewN | apply Kd.R_drew)); exact Kd.R_mono (Kd.R_far (p := ⟨gb128, 1, none⟩) (Kd.R_far (p := ⟨gb128, 0, none⟩) (Kd.R_types HO_1.out BK128.out (by decide)) (fun _ hk => hk.2) (.int .i64 ((rd_T45 l0_0 x19_1).f0))) (fun _ hk => hk.2) (.int .i64 ((rd_T45 l0_0 x19_1).f1))) (fun _ hk => hk.1)⟩, ⟨by (try simp only [hl1_1]); (with_reducible repeat (first | refine blk_drewN ?_ _ | refine blk_drew ?_ | refine blk_alloc ?_ _)); refine blk_far ?_ NB125_128.out _; (with_reducible repeat (first | refine blk_drewN ?_ _ | refine blk_drew ?_ | refine blk_alloc ?_ _)); refine blk_far ?_ NB125_128.out _; (with_reducible repeat (first | refine blk_drewN ?_ _ | refine blk_drew ?_ | refine blk_alloc ?_ _)); exact BK125.out⟩, ⟨by (try simp only [hl1_1]); (with_reducible repeat (first | refine blk_drewN ?_ _ | refine blk_drew ?_ | refine blk_alloc ?_ _)); refine blk_put (cs := #[.int .i64 ((rd_T45 l0_0 x19_1).f0), .int .i64 0]) ?_ 1 _ rfl; (with_reducible repeat (first | refine blk_drewN ?_ _ | refine blk_drew ?_ | refine blk_alloc ?_ _)); refine blk_put (cs := #[.int .i64 0, .int .i64 0]) ?_ 0 _ rfl; (with_reducible repeat (first | refine blk_drewN ?_ _ | refine blk_drew ?_ | refine blk_alloc ?_ _)); exact BK128.out⟩, ⟨by repeat (first | (with_reducible first | exact HK.out | apply Kept.alloc | apply Kept.drewN | apply Kept.drew | refine Kept.setCell ?_ (.inr GW125.out) _ | refine Kept.setCell ?_ (.inr GW128.out) _) | exact HK.out)⟩, ⟨by repeat (first | (with_reducible first | exact HB.out | apply below_alloc | apply pw_below_drewN | apply below_drew1 | refine below_set ?_ GE125.out | refine below_set ?_ GE128.out) | exact HB.out)⟩⟩
          case rest =>
           clear HC21
           try clear c1
           try clear p1
           try clear q1
           try clear hx1
           try clear c2
           try clear p2
           try clear c3
           try clear c4
           try clear c4b0
           try clear p6
           try clear p12
           try clear q12
           try clear hx12
           try clear c15
           try clear c15b0
           try clear c16
           try clear c16b0
           try clear c17
           try clear c17b0
           try clear c18
           try clear c18b0
           try clear c19
           try clear c19b0
           try clear c20
           try clear c20b0
           try clear c20b1
           try clear c23
           try clear c25
           try clear c25b0
           try clear c26
           try clear c29
           try clear hcz11_0
           try clear hcz11_1
           try clear hcz14_0
           try clear hcz14_1
           try clear hcz24_0
           try clear hcz24_1
           try clear hcz27_0
           try clear hcz27_1
           try clear hcz28_0
           try clear hcz28_1
           try clear hcz30_0
           try clear hcz30_1
           try clear hcz6_0
           try clear hcz6_1
           try clear hcz9_0
           try clear hcz9_1
           try clear hfz11_0
           try clear hfz11_1
           try clear hfz14_0
           try clear hfz14_1
           try clear hfz24_0
           try clear hfz24_1
           try clear hfz27_0
           try clear hfz27_1
           try clear hfz28_0
           try clear hfz28_1
           try clear hfz30_0
           try clear hfz30_1
           try clear hfz6_0
           try clear hfz6_1
           try clear hfz9_0
           try clear hfz9_1
           try clear hx127_0
           try clear hx127_1
           try clear hx129_0
           try clear p127
           try clear p129
           try clear p2
           try clear q127
           try clear q129
           obtain ⟨kq, x40_20, rfl, HA, HJ20, HO_1, BK125, BK128, HK, HB⟩ := hcut
           cases kq with
           | zero => exact absurd HA.out (by simp [ilp_force.j1])
           | succ kj20 =>
            have H := HA.out
            clear HA
            simp only [ilp_force.j1] at H
            by_cases c31 : x40_20 = true
            ·subst c31
             have H1 : (if 0 ≤ ((rd_T45 l0_0 x19_1).f0) then (if ((rd_T45 l0_0 x19_1).f0) < (x1_1.length : Int) then (some (false, true, (x1_1.set (((rd_T45 l0_0 x19_1).f0) : Int).toNat 1))) else (none)) else (none)) = some (r1, r2, r3) := by rw [if_pos rfl] at H; exact H
             clear H
             have H := H1
             clear H1
             by_cases c32 : 0 ≤ ((rd_T45 l0_0 x19_1).f0)
             ·rw [if_pos c32] at H
              have c32b0 : decide (0 ≤ ((rd_T45 l0_0 x19_1).f0)) = true := decide_eq_true c32
              (try simp only [hl1_1] at c32b0)
              clear c32
              by_cases c33 : ((rd_T45 l0_0 x19_1).f0) < (x1_1.length : Int)
              ·rw [if_pos c33] at H
               have c33b0 : decide (((rd_T45 l0_0 x19_1).f0) < (x1_1.length : Int)) = true := decide_eq_true c33
               (try simp only [hl1_1] at c33b0)
               clear c33
               obtain ⟨y130, hy130⟩ : ∃ y_ : List Int, y_ = (x1_1.set (((rd_T45 l0_0 x19_1).f0) : Int).toNat 1) := ⟨_, rfl⟩
               replace H : (some (false, true, y130)) = some (r1, r2, r3) := by first | (rw [hy130]; with_reducible exact H) | (have H2_ := (Option.bind_some _ _).symm.trans H; rw [hy130]; with_reducible exact H2_) | (have H2_ := (Option.bind_some _ _).symm.trans H; with_reducible exact H2_) | with_reducible exact H | (rw [hy130]; exact H) | exact H
               have Ny130 := Aside0.mk hy130
               clear hy130
               simp only [Option.some.injEq, Prod.mk.injEq] at H
               obtain ⟨rfl, rfl, rfl⟩ := H
               have hnb35 := NB128_125.out
               have hnc35 := NB125_128.out
               have hcz36_0 : wc.cell? ⟨gb128, 0, none⟩ = some (.int .i64 ((rd_T45 l0_0 x19_1).f0)) := (blk_cell BK128.out 0).trans rfl
               have hcz36_1 : wc.cell? ⟨gb128, 1, none⟩ = some (.int .i64 ((rd_T45 l0_0 x19_1).f1)) := (blk_cell BK128.out 1).trans rfl
               have hfz36_0 := blk_frozen BK128.out 0
               have hfz36_1 := blk_frozen BK128.out 1
               have p34 : 0 ≤ (((rd_T45 l0_0 x19_1).f0) : Int) := of_decide_eq_true (by first | (with_reducible assumption) | assumption)
               have q34 : (((rd_T45 l0_0 x19_1).f0) : Int) < ((x1_1.length : Int) : Int) := of_decide_eq_true (by first | (with_reducible assumption) | assumption)
               obtain ⟨go34, co34, eo34, gb34, gl34, cl34, HG34⟩ := Kd.R_form HO_1.out (by omega)
               (first | cases eo34 | (injection eo34 with ea_ en_ ec_; (first | subst ea_ | (injection ea_ with ea_; subst ea_)); subst ec_; clear en_))
               have GB34 := Aside0.mk gb34
               have GG34 := Aside0.mk HG34
               clear gb34 gl34 HG34
               (try simp only [add_plain] at *)
               have HMgo34 := Aside0.mk (show (P1_ go34 ∨ w.heap.size ≤ go34) from (HO_1.out.1 _ rfl))
               (first | simp only [add_plain] at hx129_0 | skip)
               obtain ⟨hx34_0, hf34_0⟩ := Kd.R_celln 0 HO_1.out (((rd_T45 l0_0 x19_1).f0) : Int) p34 q34
               replace p34 := eq_true p34
               replace q34 := eq_true q34
               have HP37 := Kd.R_putg HO_1.out (((rd_T45 l0_0 x19_1).f0) : Int) 1
               go_wp2_with (first | ((with_reducible refine gate_store (t := 3) (p := 44) rfl ?_); refine store_event (t := 3) (p := 44) (v := ?vo_w38) (w1 := (wc.setCell ⟨go34, (((rd_T45 l0_0 x19_1).f0) : Int).toNat, none⟩ (.int .i64 1))) ?hg ?ho ?hn ?hr ?_; (case ho => rfl); (case hg => rfl); (case hn => rfl); (case hr => first | (go_simp; done) | (go_simp; rfl)); intro w38 hw; have hg : wc.grownBy w38 (some go34) := (by rw [hw]; exact HP37.2); have hp_ : Kd.R (Kd.int .i64) 3 w38 w0.heap.size (fun k_ => (P1_ k_ ∨ w.heap.size ≤ k_)) (.slice (some ⟨go34, 0, none⟩) x1_1.length co12) y130 := (by rw [hw, Ny130.out]; exact HP37.1); clear HP37; have n0_ := Aside0.mk (hp_); have n1_ := Aside0.mk (blk_grown (g := gb125) (o := .cells #[.slice (some ad127) l0_0.length c0_0, .int .i64 a0_1] 43 (0, 0)) (by (with_reducible repeat (first | refine blk_drewN ?_ _ | refine blk_drew ?_ | refine blk_alloc ?_ _)); exact BK125.out) hg (Kd.R_ne HO_1.out BK125.out (by decide))); have n2_ := Aside0.mk (blk_grown (g := gb128) (o := .cells #[.int .i64 ((rd_T45 l0_0 x19_1).f0), .int .i64 ((rd_T45 l0_0 x19_1).f1)] 45 (0, 0)) (by (with_reducible repeat (first | refine blk_drewN ?_ _ | refine blk_drew ?_ | refine blk_alloc ?_ _)); exact BK128.out) hg (Kd.R_ne HO_1.out BK128.out (by decide))); have n3_ := Aside0.mk ((by rw [hw]; exact below_set (HB.out) GB34.out : Below w0.heap.size w0 w38)); have n4_ := Aside0.mk (Kept.of_grown (S := (fun k_ => P1_ k_)) hg (by repeat (first | (with_reducible first | exact HK.out | apply Kept.alloc | apply Kept.drewN | apply Kept.drew | refine Kept.setCell ?_ (.inr GW125.out) _ | refine Kept.setCell ?_ (.inr GW128.out) _) | exact HK.out)) (fun k_ e_ => (HO_1.out.1 k_ e_))); clear HO_1; clear BK125; clear BK128; clear HB; clear HK; have HO_1 := n0_; have BK125 := n1_; have BK128 := n2_; have HB := n3_; have HK := n4_; clear n0_ n1_ n2_ n3_ n4_; clear hg hw hp_))
               go_ret2
               exact ⟨by first | rfl | (simp [errW_none, errW_some] <;> rfl) | (simp [*, errW_none, errW_some] <;> rfl), (by first | exact (by (with_reducible repeat (first | apply Kd.R_alloc | apply Kd.R_drewN | apply Kd.R_drew)); exact HO_1.out) | (simp only [hl1_1]; exact (by (with_reducible repeat (first | apply Kd.R_alloc | apply Kd.R_drewN | apply Kd.R_drew)); exact HO_1.out))), by repeat (first | (with_reducible first | exact HB.out | apply below_alloc | apply pw_below_drewN | apply below_drew1 | refine below_set ?_ GE125.out | refine below_set ?_ GE128.out) | exact HB.out), by repeat (first | (with_reducible first | exact HK.out | apply Kept.alloc | apply Kept.drewN | apply Kept.drew | refine Kept.setCell ?_ (.inr GW125.out) _ | refine Kept.setCell ?_ (.inr GW128.out) _) | exact HK.out)⟩
              ·rw [if_neg c33] at H
               exact absurd H (by simp)
             ·rw [if_neg c32] at H
              exact absurd H (by simp)
            ·replace c31 := Bool.eq_false_iff.mpr c31
             subst c31
             have H1 : (if ((rd_T45 l0_0 x19_1).f1) < 0 then (if (wrap64 (t126 + ((rd_T45 l0_0 x19_1).f1))) < a0_1 then (if 0 ≤ ((rd_T45 l0_0 x19_1).f0) then (if ((rd_T45 l0_0 x19_1).f0) < (x1_1.length : Int) then (some (false, true, (x1_1.set (((rd_T45 l0_0 x19_1).f0) : Int).toNat 0))) else (none)) else (none)) else (ilp_force.l0 kj20 x1_1 t126 l0_0 (l0_0.length : Int) (wrap64 (x19_1 + 1)) l0_0 a0_1)) else (ilp_force.l0 kj20 x1_1 t126 l0_0 (l0_0.length : Int) (wrap64 (x19_1 + 1)) l0_0 a0_1)) = some (r1, r2, r3) := by rw [if_neg (show ¬ (false = true) by decide)] at H; exact H
             clear H
             have H := H1
             clear H1
             by_cases c39 : ((rd_T45 l0_0 x19_1).f1) < 0
             ·rw [if_pos c39] at H
              have c39b0 : decide (((rd_T45 l0_0 x19_1).f1) < 0) = true := decide_eq_true c39
              (try simp only [hl1_1] at c39b0)
              clear c39
              by_cases c40 : (wrap64 (t126 + ((rd_T45 l0_0 x19_1).f1))) < a0_1
              ·rw [if_pos c40] at H
               have c40b0 : decide ((wrap64 (t126 + ((rd_T45 l0_0 x19_1).f1))) < a0_1) = true := decide_eq_true c40
               (try simp only [hl1_1] at c40b0)
               clear c40
               by_cases c41 : 0 ≤ ((rd_T45 l0_0 x19_1).f0)
               ·rw [if_pos c41] at H
                have c41b0 : decide (0 ≤ ((rd_T45 l0_0 x19_1).f0)) = true := decide_eq_true c41
                (try simp only [hl1_1] at c41b0)
                clear c41
                by_cases c42 : ((rd_T45 l0_0 x19_1).f0) < (x1_1.length : Int)
                ·rw [if_pos c42] at H
                 have c42b0 : decide (((rd_T45 l0_0 x19_1).f0) < (x1_1.length : Int)) = true := decide_eq_true c42
                 (try simp only [hl1_1] at c42b0)
                 clear c42
                 obtain ⟨y131, hy131⟩ : ∃ y_ : List Int, y_ = (x1_1.set (((rd_T45 l0_0 x19_1).f0) : Int).toNat 0) := ⟨_, rfl⟩
                 replace H : (some (false, true, y131)) = some (r1, r2, r3) := by first | (rw [hy131]; with_reducible exact H) | (have H2_ := (Option.bind_some _ _).symm.trans H; rw [hy131]; with_reducible exact H2_) | (have H2_ := (Option.bind_some _ _).symm.trans H; with_reducible exact H2_) | with_reducible exact H | (rw [hy131]; exact H) | exact H
                 have Ny131 := Aside0.mk hy131
                 clear hy131
                 simp only [Option.some.injEq, Prod.mk.injEq] at H
                 obtain ⟨rfl, rfl, rfl⟩ := H
                 have hnb44 := NB128_125.out
                 have hnc44 := NB125_128.out
                 have hcz45_0 : wc.cell? ⟨gb128, 0, none⟩ = some (.int .i64 ((rd_T45 l0_0 x19_1).f0)) := (blk_cell BK128.out 0).trans rfl
                 have hcz45_1 : wc.cell? ⟨gb128, 1, none⟩ = some (.int .i64 ((rd_T45 l0_0 x19_1).f1)) := (blk_cell BK128.out 1).trans rfl
                 have hfz45_0 := blk_frozen BK128.out 0
                 have hfz45_1 := blk_frozen BK128.out 1
                 have hcz46_0 : wc.cell? ⟨gb125, 0, none⟩ = some (.slice (some ad127) l0_0.length c0_0) := (blk_cell BK125.out 0).trans rfl
                 have hcz46_1 : wc.cell? ⟨gb125, 1, none⟩ = some (.int .i64 a0_1) := (blk_cell BK125.out 1).trans rfl
                 have hfz46_0 := blk_frozen BK125.out 0
                 have hfz46_1 := blk_frozen BK125.out 1
                 have p43 : 0 ≤ (((rd_T45 l0_0 x19_1).f0) : Int) := of_decide_eq_true (by first | (with_reducible assumption) | assumption)
                 have q43 : (((rd_T45 l0_0 x19_1).f0) : Int) < ((x1_1.length : Int) : Int) := of_decide_eq_true (by first | (with_reducible assumption) | assumption)
                 obtain ⟨go43, co43, eo43, gb43, gl43, cl43, HG43⟩ := Kd.R_form HO_1.out (by omega)
                 (first | cases eo43 | (injection eo43 with ea_ en_ ec_; (first | subst ea_ | (injection ea_ with ea_; subst ea_)); subst ec_; clear en_))
                 have GB43 := Aside0.mk gb43
                 have GG43 := Aside0.mk HG43
                 clear gb43 gl43 HG43
                 (try simp only [add_plain] at *)
                 have HMgo43 := Aside0.mk (show (P1_ go43 ∨ w.heap.size ≤ go43) from (HO_1.out.1 _ rfl))
                 obtain ⟨hx43_0, hf43_0⟩ := Kd.R_celln 0 HO_1.out (((rd_T45 l0_0 x19_1).f0) : Int) p43 q43
                 replace p43 := eq_true p43
                 replace q43 := eq_true q43
                 have HP47 := Kd.R_putg HO_1.out (((rd_T45 l0_0 x19_1).f0) : Int) 0
                 go_wp2_with (first | ((with_reducible refine gate_store (t := 3) (p := 60) rfl ?_); refine store_event (t := 3) (p := 60) (v := ?vo_w48) (w1 := (wc.setCell ⟨go43, (((rd_T45 l0_0 x19_1).f0) : Int).toNat, none⟩ (.int .i64 0))) ?hg ?ho ?hn ?hr ?_; (case ho => rfl); (case hg => rfl); (case hn => rfl); (case hr => first | (go_simp; done) | (go_simp; rfl)); intro w48 hw; have hg : wc.grownBy w48 (some go43) := (by rw [hw]; exact HP47.2); have hp_ : Kd.R (Kd.int .i64) 3 w48 w0.heap.size (fun k_ => (P1_ k_ ∨ w.heap.size ≤ k_)) (.slice (some ⟨go43, 0, none⟩) x1_1.length co12) y131 := (by rw [hw, Ny131.out]; exact HP47.1); clear HP47; have n0_ := Aside0.mk (hp_); have n1_ := Aside0.mk (blk_grown (g := gb125) (o := .cells #[.slice (some ad127) l0_0.length c0_0, .int .i64 a0_1] 43 (0, 0)) (by (with_reducible repeat (first | refine blk_drewN ?_ _ | refine blk_drew ?_ | refine blk_alloc ?_ _)); exact BK125.out) hg (Kd.R_ne HO_1.out BK125.out (by decide))); have n2_ := Aside0.mk (blk_grown (g := gb128) (o := .cells #[.int .i64 ((rd_T45 l0_0 x19_1).f0), .int .i64 ((rd_T45 l0_0 x19_1).f1)] 45 (0, 0)) (by (with_reducible repeat (first | refine blk_drewN ?_ _ | refine blk_drew ?_ | refine blk_alloc ?_ _)); exact BK128.out) hg (Kd.R_ne HO_1.out BK128.out (by decide))); have n3_ := Aside0.mk ((by rw [hw]; exact below_set (HB.out) GB43.out : Below w0.heap.size w0 w48)); have n4_ := Aside0.mk (Kept.of_grown (S := (fun k_ => P1_ k_)) hg (by repeat (first | (with_reducible first | exact HK.out | apply Kept.alloc | apply Kept.drewN | apply Kept.drew | refine Kept.setCell ?_ (.inr GW125.out) _ | refine Kept.setCell ?_ (.inr GW128.out) _) | exact HK.out)) (fun k_ e_ => (HO_1.out.1 k_ e_))); clear HO_1; clear BK125; clear BK128; clear HB; clear HK; have HO_1 := n0_; have BK125 := n1_; have BK128 := n2_; have HB := n3_; have HK := n4_; clear n0_ n1_ n2_ n3_ n4_; clear hg hw hp_))
                 go_ret2
                 exact ⟨by first | rfl | (simp [errW_none, errW_some] <;> rfl) | (simp [*, errW_none, errW_some] <;> rfl), (by first | exact (by (with_reducible repeat (first | apply Kd.R_alloc | apply Kd.R_drewN | apply Kd.R_drew)); exact HO_1.out) | (simp only [hl1_1]; exact (by (with_reducible repeat (first | apply Kd.R_alloc | apply Kd.R_drewN | apply Kd.R_drew)); exact HO_1.out))), by repeat (first | (with_reducible first | exact HB.out | apply below_alloc | apply pw_below_drewN | apply below_drew1 | refine below_set ?_ GE125.out | refine below_set ?_ GE128.out) | exact HB.out), by repeat (first | (with_reducible first | exact HK.out | apply Kept.alloc | apply Kept.drewN | apply Kept.drew | refine Kept.setCell ?_ (.inr GW125.out) _ | refine Kept.setCell ?_ (.inr GW128.out) _) | exact HK.out)⟩
                ·rw [if_neg c42] at H
                 exact absurd H (by simp)
               ·rw [if_neg c41] at H
                exact absurd H (by simp)
              ·rw [if_neg c40] at H
               have c40b0 : decide ((wrap64 (t126 + ((rd_T45 l0_0 x19_1).f1))) < a0_1) = false := decide_eq_false c40
               (try simp only [hl1_1] at c40b0)
               clear c40
               have H' := Aside0.mk H
               clear H
               have hnb49 := NB128_125.out
               have hnc49 := NB125_128.out
               have hcz50_0 : wc.cell? ⟨gb128, 0, none⟩ = some (.int .i64 ((rd_T45 l0_0 x19_1).f0)) := (blk_cell BK128.out 0).trans rfl
               have hcz50_1 : wc.cell? ⟨gb128, 1, none⟩ = some (.int .i64 ((rd_T45 l0_0 x19_1).f1)) := (blk_cell BK128.out 1).trans rfl
               have hfz50_0 := blk_frozen BK128.out 0
               have hfz50_1 := blk_frozen BK128.out 1
               have hcz51_0 : wc.cell? ⟨gb125, 0, none⟩ = some (.slice (some ad127) l0_0.length c0_0) := (blk_cell BK125.out 0).trans rfl
               have hcz51_1 : wc.cell? ⟨gb125, 1, none⟩ = some (.int .i64 a0_1) := (blk_cell BK125.out 1).trans rfl
               have hfz51_0 := blk_frozen BK125.out 0
               have hfz51_1 := blk_frozen BK125.out 1
               go_wp2
               (try simp only [← hl1_1])
               go_roundg kj20
               case measure => have := HK1.out; have := HJ20.out; omega
               case rel => exact ⟨(x1_1), (wrap64 (x19_1 + 1)), (by first | rfl | (simp; done) | (simp [*]; done)), H', ⟨by have := HK1.out; have := HJ20.out; omega⟩, ⟨by (try simp only [hl1_1]); (with_reducible repeat (first | apply Kd.R_alloc | apply Kd.R_drewN | apply Kd.R_drew)); exact HO_1.out⟩, ⟨by (try simp only [hl1_1]); (with_reducible repeat (first | refine blk_drewN ?_ _ | refine blk_drew ?_ | refine blk_alloc ?_ _)); exact BK125.out⟩, ⟨by repeat (first | (with_reducible first | exact HK.out | apply Kept.alloc | apply Kept.drewN | apply Kept.drew | refine Kept.setCell ?_ (.inr GW125.out) _ | refine Kept.setCell ?_ (.inr GW128.out) _) | exact HK.out)⟩, ⟨by repeat (first | (with_reducible first | exact HB.out | apply below_alloc | apply pw_below_drewN | apply below_drew1 | refine below_set ?_ GE125.out | refine below_set ?_ GE128.out) | exact HB.out)⟩⟩
             ·rw [if_neg c39] at H
              have c39b0 : decide (((rd_T45 l0_0 x19_1).f1) < 0) = false := decide_eq_false c39
              (try simp only [hl1_1] at c39b0)
              clear c39
              have H' := Aside0.mk H
              clear H
              have hnb52 := NB128_125.out
              have hnc52 := NB125_128.out
              have hcz53_0 : wc.cell? ⟨gb128, 0, none⟩ = some (.int .i64 ((rd_T45 l0_0 x19_1).f0)) := (blk_cell BK128.out 0).trans rfl
              have hcz53_1 : wc.cell? ⟨gb128, 1, none⟩ = some (.int .i64 ((rd_T45 l0_0 x19_1).f1)) := (blk_cell BK128.out 1).trans rfl
              have hfz53_0 := blk_frozen BK128.out 0
              have hfz53_1 := blk_frozen BK128.out 1
              go_wp2
              (try simp only [← hl1_1])
              go_roundg kj20
              case measure => have := HK1.out; have := HJ20.out; omega
              case rel => exact ⟨(x1_1), (wrap64 (x19_1 + 1)), (by first | rfl | (simp; done) | (simp [*]; done)), H', ⟨by have := HK1.out; have := HJ20.out; omega⟩, ⟨by (try simp only [hl1_1]); (with_reducible repeat (first | apply Kd.R_alloc | apply Kd.R_drewN | apply Kd.R_drew)); exact HO_1.out⟩, ⟨by (try simp only [hl1_1]); (with_reducible repeat (first | refine blk_drewN ?_ _ | refine blk_drew ?_ | refine blk_alloc ?_ _)); exact BK125.out⟩, ⟨by repeat (first | (with_reducible first | exact HK.out | apply Kept.alloc | apply Kept.drewN | apply Kept.drew | refine Kept.setCell ?_ (.inr GW125.out) _ | refine Kept.setCell ?_ (.inr GW128.out) _) | exact HK.out)⟩, ⟨by repeat (first | (with_reducible first | exact HB.out | apply below_alloc | apply pw_below_drewN | apply below_drew1 | refine below_set ?_ GE125.out | refine below_set ?_ GE128.out) | exact HB.out)⟩⟩
         ·rw [if_neg c20] at H
          have c20b0 : ((rd x1_1 ((rd_T45 l0_0 x19_1).f0)) == (-1)) = false := beq_eq_false_iff_ne.mpr c20
          have c20b1 : ((rd x1_1 ((rd_T45 l0_0 x19_1).f0)) != (-1)) = true := bne_iff_ne.mpr c20
          (try simp only [hl1_1] at c20b0)
          (try simp only [hl1_1] at c20b1)
          have H' := Aside0.mk H
          clear H
          have p127 : 0 ≤ (x19_1 : Int) := of_decide_eq_true (by first | (with_reducible assumption) | assumption)
          have q127 : x19_1 < (l0_0.length : Int) := of_decide_eq_true (by first | (with_reducible assumption) | assumption)
          obtain ⟨ad127, e127, hx127_0, hx127_1⟩ := at_T45 (Kd.C_kept_now HR0_0.out HK.out) x19_1 p127 q127
          cases e127
          replace p127 := eq_true p127
          replace q127 := eq_true q127
          go_wp2_with (first | ((with_reducible refine gate_dst (N := 8) rfl ?_); refine box_event ?hg (N := 8) ?hd (cs := #[.int .i64 0, .int .i64 0]) (t := 45) ?hr ?_; (case hd => rfl); (case hg => rfl); (case hr => first | (go_simp; done) | (go_simp; rfl)); intro gb128 hg w54 hbox hb; have n0_ := Aside0.mk (Kd.R_below (by (with_reducible repeat (first | apply Kd.R_alloc | apply Kd.R_drewN | apply Kd.R_drew)); exact HO_1.out) hb); have n1_ := Aside0.mk (blk_below (g := gb125) (o := .cells #[.slice (some ad127) l0_0.length c0_0, .int .i64 a0_1] 43 (0, 0)) (by (with_reducible repeat (first | refine blk_drewN ?_ _ | refine blk_drew ?_ | refine blk_alloc ?_ _)); exact BK125.out) hb); have n2_ := Aside0.mk (Kept.below (S := (fun k_ => P1_ k_)) (by repeat (first | (with_reducible first | exact HK.out | apply Kept.alloc | apply Kept.drewN | apply Kept.drew | refine Kept.setCell ?_ (.inr GW125.out) _) | exact HK.out)) hb); have n3_ := Aside0.mk (below_step (by repeat (first | (with_reducible first | exact HB.out | apply below_alloc | apply pw_below_drewN | apply below_drew1 | refine below_set ?_ GE125.out) | exact HB.out)) hb); have n4_ := Aside0.mk (hbox); have n5_ := Aside0.mk ((by rw [hg]; exact (by first | exact HK.out.1 | exact (show Kept w _ (fun k_ => P1_ k_) from by repeat (first | (with_reducible first | exact HK.out | apply Kept.alloc | apply Kept.drewN | apply Kept.drew | refine Kept.setCell ?_ (.inr GW125.out) _) | exact HK.out)).1) : w.heap.size ≤ gb128)); have n6_ := Aside0.mk ((by rw [hg]; exact (below_size (by repeat (first | (with_reducible first | exact HB.out | apply below_alloc | apply pw_below_drewN | apply below_drew1 | refine below_set ?_ GE125.out) | exact HB.out))) : w0.heap.size ≤ gb128)); have n7_ := Aside0.mk ((by rw [hg]; exact Nat.ne_of_lt (blk_lt (g := gb125) (o := .cells #[.slice (some ad127) l0_0.length c0_0, .int .i64 a0_1] 43 (0, 0)) (by (with_reducible repeat (first | refine blk_drewN ?_ _ | refine blk_drew ?_ | refine blk_alloc ?_ _)); exact BK125.out)) : gb125 ≠ gb128)); have n8_ := Aside0.mk ((by rw [hg]; exact Nat.ne_of_gt (blk_lt (g := gb125) (o := .cells #[.slice (some ad127) l0_0.length c0_0, .int .i64 a0_1] 43 (0, 0)) (by (with_reducible repeat (first | refine blk_drewN ?_ _ | refine blk_drew ?_ | refine blk_alloc ?_ _)); exact BK125.out)) : gb128 ≠ gb125)); clear HO_1; clear BK125; clear HK; clear HB; have HO_1 := n0_; have BK125 := n1_; have HK := n2_; have HB := n3_; have BK128 := n4_; have GW128 := n5_; have GE128 := n6_; have NB125_128 := n7_; have NB128_125 := n8_; clear n0_ n1_ n2_ n3_ n4_ n5_ n6_ n7_ n8_; clear hb hbox hg; have hnb55 := NB128_125.out; have hnc55 := NB125_128.out; have hcz56_0 : w54.cell? ⟨gb128, 0, none⟩ = some (.int .i64 0) := (blk_cell BK128.out 0).trans rfl; have hcz56_1 : w54.cell? ⟨gb128, 1, none⟩ = some (.int .i64 0) := (blk_cell BK128.out 1).trans rfl; have hfz56_0 := blk_frozen BK128.out 0; have hfz56_1 := blk_frozen BK128.out 1; have p129 : 0 ≤ (((rd_T45 l0_0 x19_1).f0) : Int) := of_decide_eq_true (by first | (with_reducible assumption) | assumption); have q129 : ((rd_T45 l0_0 x19_1).f0) < (x1_1.length : Int) := of_decide_eq_true (by first | (with_reducible assumption) | assumption); obtain ⟨ad129, e129, hx129_0⟩ := Kd.at_int (Kd.R_reads' HO_1.out).2.2 ((rd_T45 l0_0 x19_1).f0) p129 q129; cases e129; have hn129_0 : ad129.block ≠ gb128 := Kd.own_blk (Kd.R_ne HO_1.out BK128.out (by decide)); have hn129_1 : ad129.block ≠ gb128 := Kd.own_blk (Kd.R_ne HO_1.out BK128.out (by decide)); replace hx129_0 := (cell_far (p := ⟨gb128, 0, none⟩) (by first | (rw [add_block]; exact hn129_0) | (show (Addr.add _ _).block ≠ _; rw [add_block]; exact hn129_0) | exact hn129_0) (.int .i64 ((rd_T45 l0_0 x19_1).f0))).trans hx129_0; replace hx129_0 := (cell_far (p := ⟨gb128, 1, none⟩) (by first | (rw [add_block]; exact hn129_1) | (show (Addr.add _ _).block ≠ _; rw [add_block]; exact hn129_1) | exact hn129_1) (.int .i64 ((rd_T45 l0_0 x19_1).f1))).trans hx129_0; clear hn129_0; clear hn129_1; replace p129 := eq_true p129; replace q129 := eq_true q129))
          (try simp only [← hl1_1])
          go_roundg k1
          case measure => have := HK1.out; omega
          case rel => exact ⟨(x1_1), (wrap64 (x19_1 + 1)), (by first | rfl | (simp; done) | (simp [*]; done)), H', ⟨by have := HK1.out; omega⟩, ⟨by (try simp only [hl1_1]); (with_reducible repeat (first | apply Kd.R_alloc | apply Kd.R_drewN | apply Kd.R_drew)); exact Kd.R_mono (Kd.R_far (p := ⟨gb128, 1, none⟩) (Kd.R_far (p := ⟨gb128, 0, none⟩) (Kd.R_types HO_1.out BK128.out (by decide)) (fun _ hk => hk.2) (.int .i64 ((rd_T45 l0_0 x19_1).f0))) (fun _ hk => hk.2) (.int .i64 ((rd_T45 l0_0 x19_1).f1))) (fun _ hk => hk.1)⟩, ⟨by (try simp only [hl1_1]); (with_reducible repeat (first | refine blk_drewN ?_ _ | refine blk_drew ?_ | refine blk_alloc ?_ _)); refine blk_far ?_ NB125_128.out _; (with_reducible repeat (first | refine blk_drewN ?_ _ | refine blk_drew ?_ | refine blk_alloc ?_ _)); refine blk_far ?_ NB125_128.out _; (with_reducible repeat (first | refine blk_drewN ?_ _ | refine blk_drew ?_ | refine blk_alloc ?_ _)); exact BK125.out⟩, ⟨by repeat (first | (with_reducible first | exact HK.out | apply Kept.alloc | apply Kept.drewN | apply Kept.drew | refine Kept.setCell ?_ (.inr GW125.out) _ | refine Kept.setCell ?_ (.inr GW128.out) _) | exact HK.out)⟩, ⟨by repeat (first | (with_reducible first | exact HB.out | apply below_alloc | apply pw_below_drewN | apply below_drew1 | refine below_set ?_ GE125.out | refine below_set ?_ GE128.out) | exact HB.out)⟩⟩
        ·rw [if_neg c19] at H
         exact absurd H (by simp)
       ·rw [if_neg c18] at H
        exact absurd H (by simp)
      ·rw [if_neg c17] at H
       exact absurd H (by simp)
     ·rw [if_neg c16] at H
      exact absurd H (by simp)
    ·rw [if_neg c15] at H
     have c15b0 : decide (x19_1 < (l0_0.length : Int)) = false := decide_eq_false c15
     (try simp only [hl1_1] at c15b0)
     clear c15
     simp only [Option.some.injEq, Prod.mk.injEq] at H
     obtain ⟨rfl, rfl, rfl⟩ := H
     go_wp2
     go_ret2
     exact ⟨by first | rfl | (simp [errW_none, errW_some] <;> rfl) | (simp [*, errW_none, errW_some] <;> rfl), (by first | exact (by (with_reducible repeat (first | apply Kd.R_alloc | apply Kd.R_drewN | apply Kd.R_drew)); exact HO_1.out) | (simp only [hl1_1]; exact (by (with_reducible repeat (first | apply Kd.R_alloc | apply Kd.R_drewN | apply Kd.R_drew)); exact HO_1.out))), by repeat (first | (with_reducible first | exact HB.out | apply below_alloc | apply pw_below_drewN | apply below_drew1 | refine below_set ?_ GE125.out) | exact HB.out), by repeat (first | (with_reducible first | exact HK.out | apply Kept.alloc | apply Kept.drewN | apply Kept.drew | refine Kept.setCell ?_ (.inr GW125.out) _) | exact HK.out)⟩

end Go.Proofs.Ytiigmklolapckaa.QAll
