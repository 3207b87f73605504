/- The solver's search, as the machine runs it. -/
import Derived.Test.YtiigmklolapckaaExtWalk1
import Derived.Deep.RegionHeld3
namespace Go.Proofs.Ytiigmklolapckaa.QAll
open Go.RowKit Go.Proofs.YtiigmklolapckaaW.PrintWords Go.Proofs.YtiigmklolapckaaW.PrintLast Go.Proofs.YtiigmklolapckaaW.PrintMore
attribute [local go_sem] max2_int min2_int max_two min_two max_three min_three max_four min_four
set_option linter.unusedVariables false
set_option linter.unusedSimpArgs false

theorem firstOpen_le (y : List Int) : firstOpen y ≤ y.length := by
 induction y with
 | nil => simp [firstOpen]
 | cons v vs ih => unfold firstOpen; split <;> simp <;> omega
theorem firstOpen_before : ∀ (y : List Int) (k : Nat), k < firstOpen y → rd y (k : Int) ≠ -1
 | [], k, h => by simp [firstOpen] at h
 | v :: vs, k, h => by
  unfold firstOpen at h
  split at h
  ·omega
  ·cases k with
   | zero => simpa [rd] using (by assumption : ¬ v = -1)
   | succ k => have := firstOpen_before vs k (by omega); simpa [rd] using this
theorem firstOpen_at : ∀ (y : List Int), firstOpen y < y.length → rd y (firstOpen y : Int) = -1
 | [], h => by simp at h
 | v :: vs, h => by
  unfold firstOpen at h ⊢
  split
  ·simpa [rd]
  ·rename_i e
   rw [if_neg e] at h
   have := firstOpen_at vs (by simpa using h)
   simpa [rd] using this

section
variable {w0 w w' : World} {pb lb bb sb : Nat} {s s' : List Bool × Int} {u : Value} {x y : List Int}
variable {A0_0 : Option Addr} {c0_0 : Nat} {l0_0 : List Int} {A0_1 : Option Addr} {c0_1 : Nat} {l0_1 : List S43} {A1 : Option Addr} {n1 c1 : Nat}
theorem sv_cells (h : Hid (SV w0 pb lb bb sb #[.slice A0_0 l0_0.length c0_0, .slice A0_1 l0_1.length c0_1] w s)) :
  w.cell? ⟨pb, 0, none⟩ = some (.slice A0_0 l0_0.length c0_0) ∧ w.cell? ⟨pb, 1, none⟩ = some (.slice A0_1 l0_1.length c0_1) ∧ w.cell? ⟨lb, 0, none⟩ = some (.int .i64 s.2) :=
 ⟨(blk_cell h.out.box 0).trans rfl, (blk_cell h.out.box 1).trans rfl, (blk_cell h.out.lst 0).trans rfl⟩



set_option maxHeartbeats 6400000 in
set_option maxRecDepth 100000 in
theorem search_calls (HR0 : Hid (Kd.C (Kd.int .i64) w0 A0_0 l0_0.length l0_0)) (hc0_0 : l0_0.length ≤ c0_0) (HR1 : Hid (Kd.C k43 w0 A0_1 l0_1.length l0_1)) (hc0_1 : l0_1.length ≤ c0_1) (n : Nat) :
  ∀ (w : World) (A1 : Option Addr) (c1 : Nat) (x : List Int) (s s' : List Bool × Int), x.length ≤ 64 → srch l0_0 l0_1 n x s = some s' →
   SV w0 pb lb bb sb #[.slice A0_0 l0_0.length c0_0, .slice A0_1 l0_1.length c0_1] w s → OX w0 w (.slice A1 x.length c1) x →
   Calls Try.prog 33 #[.slice A1 x.length c1, .pointer (some ⟨pb, 0, none⟩), .pointer (some ⟨lb, 0, none⟩), .pointer (some ⟨bb, 0, none⟩), .pointer (some ⟨sb, 0, none⟩)] w fun e w' =>
    e = .returned (.tuple #[]) ∧ SV w0 pb lb bb sb #[.slice A0_0 l0_0.length c0_0, .slice A0_1 l0_1.length c0_1] w' s' ∧ Kept w w' (SW (.slice A1 x.length c1) lb bb) := by
 induction n with
 | zero => intro w A1 c1 x s s' hx h; cases h
 | succ n ih =>
  intro w A1 c1 x s s' hx h hS hX
  obtain ⟨q, hf, h⟩ := Option.bind_eq_some_iff.mp h
  obtain ⟨ok, y⟩ := q
  have IH := Lib.hid ih
  have HF := Lib.hid hf
  have HSd := Lib.hid hS.drew
  have HXd := Lib.hid hX.drew
  obtain ⟨hp0, hp1, hp2⟩ := sv_cells HSd
  clear ih hf hS hX
  cases ok
  ·simp only [Bool.false_eq_true, if_false, Option.some.injEq] at h
   subst h
   go_enter Try.func33, Try.ntmps33
   go_wp2
   refine start_ (n := 19) (S := fun w' => w'.cell? ⟨pb, 0, none⟩ = some (.slice A0_0 l0_0.length c0_0) ∧ w'.cell? ⟨pb, 1, none⟩ = some (.slice A0_1 l0_1.length c0_1) ∧ w'.cell? ⟨lb, 0, none⟩ = some (.int .i64 s.2)) (ds := []) #[false, false, false, false, false, false, false, false, false, false, false, false, false, false, false, false, false, false, false] (by kernel_rfl) rfl rfl ⟨hp0, hp1, hp2⟩ (fun hHeld => ?_)
   refine pure_ (i := 1) (N := some 12) (v := ?_) (a' := ?_) #[false, true, false, false, false, false, false, false, false, false, false, false, false, false, false, false, false, false, false] rfl rfl (by kernel_rfl) (fun _ _ _ h => h) (Or.inl ⟨by rfl, ?_⟩) ?_ ?_
   rotate_left
   ·intro w'
    go_simp
    with_reducible rfl
   rotate_left
   ·simp only [Act.put, List.setIfInBounds_toArray, List.set_cons_zero, List.set_cons_succ, i64_w, i32_w]
    rfl
   refine take_ (i := 0) (N := some 11) (v := ?_) (a' := ?_) #[true, true, false, false, false, false, false, false, false, false, false, false, false, false, false, false, false, false, false] rfl rfl (by kernel_rfl) (fun _ _ _ h => h) (Or.inl ⟨by rfl, ?_⟩) hHeld ?_ ?_
   rotate_left
   ·rintro w' ⟨s0, s1, s2⟩
    go_simp
    with_reducible rfl
   rotate_left
   ·simp only [Act.put, List.setIfInBounds_toArray, List.set_cons_zero, List.set_cons_succ, i64_w, i32_w]
    rfl
   refine one_ (i := 2) (N := some 13) #[true, true, true, false, false, false, false, false, false, false, false, false, false, false, false, false, false, false, false] rfl rfl (by kernel_rfl) (by decide) (fun K hK => ?_)
   refine goes_ Try.func29 (by kernel_rfl) rfl #[.agg #[.slice A0_0 l0_0.length c0_0, .slice A0_1 l0_1.length c0_1], .slice A1 x.length c1] (by rfl) rfl rfl (by simp only [List.map_toArray, List.map_cons, List.map_nil]; rfl) ?_
   with_reducible refine (propagate_sv HSd HXd HR0 hc0_0 HR1 hc0_1 _ _ HF).mono ?_
   rintro e w1 ⟨rfl, hS1, hX1, hK1⟩
   refine ⟨_, rfl, ?_⟩
   have HS1 := Lib.hid hS1
   have HX1 := Lib.hid hX1
   obtain ⟨p1_0, p1_1, p1_2⟩ := sv_cells HS1
   have HK1 := Lib.hid hK1
   clear hS1 hX1 hK1
   refine hK.out _ _ ⟨p1_0, p1_1, p1_2⟩ (fun hHeld => ?_)
   clear hK K
   refine norm_ (a' := ?_) ?_ ?_
   rotate_left
   ·show Act.put _ (some 13) _ = _
    simp only [Act.put, List.setIfInBounds_toArray, List.set_cons_zero, List.set_cons_succ, i64_w, i32_w]
    rfl
   refine pure_ (i := 3) (N := some 14) (v := ?_) (a' := ?_) #[true, true, true, true, false, false, false, false, false, false, false, false, false, false, false, false, false, false, false] rfl rfl (by kernel_rfl) (fun _ _ _ h => h) (Or.inl ⟨by rfl, ?_⟩) ?_ ?_
   rotate_left
   ·intro w'
    go_simp
    with_reducible rfl
   rotate_left
   ·simp only [Act.put, List.setIfInBounds_toArray, List.set_cons_zero, List.set_cons_succ, i64_w, i32_w]
    rfl
   refine pure_ (i := 4) (N := some 15) (v := ?_) (a' := ?_) #[true, true, true, true, true, false, false, false, false, false, false, false, false, false, false, false, false, false, false] rfl rfl (by kernel_rfl) (fun _ _ _ h => h) (Or.inl ⟨by rfl, ?_⟩) ?_ ?_
   rotate_left
   ·intro w'
    go_simp
    with_reducible rfl
   rotate_left
   ·simp only [Act.put, List.setIfInBounds_toArray, List.set_cons_zero, List.set_cons_succ, i64_w, i32_w]
    rfl
   refine pure_ (i := 5) (N := some 16) (v := undef) (a' := ?_) #[true, true, true, true, true, true, false, false, false, false, false, false, false, false, false, false, false, false, false] rfl rfl (by kernel_rfl) (fun _ _ _ h => h) (Or.inr ⟨by rfl, rfl⟩) ?_ ?_
   rotate_left
   ·simp only [Act.put, List.setIfInBounds_toArray, List.set_cons_zero, List.set_cons_succ, i64_w, i32_w]
    rfl
   refine pure_ (i := 6) (N := some 17) (v := undef) (a' := ?_) #[true, true, true, true, true, true, true, false, false, false, false, false, false, false, false, false, false, false, false] rfl rfl (by kernel_rfl) (fun _ _ _ h => h) (Or.inr ⟨by rfl, rfl⟩) ?_ ?_
   rotate_left
   ·simp only [Act.put, List.setIfInBounds_toArray, List.set_cons_zero, List.set_cons_succ, i64_w, i32_w]
    rfl
   refine pure_ (i := 7) (N := some 18) (v := undef) (a' := ?_) #[true, true, true, true, true, true, true, true, false, false, false, false, false, false, false, false, false, false, false] rfl rfl (by kernel_rfl) (fun _ _ _ h => h) (Or.inr ⟨by rfl, rfl⟩) ?_ ?_
   rotate_left
   ·simp only [Act.put, List.setIfInBounds_toArray, List.set_cons_zero, List.set_cons_succ, i64_w, i32_w]
    rfl
   refine pure_ (i := 8) (N := some 19) (v := undef) (a' := ?_) #[true, true, true, true, true, true, true, true, true, false, false, false, false, false, false, false, false, false, false] rfl rfl (by kernel_rfl) (fun _ _ _ h => h) (Or.inr ⟨by rfl, rfl⟩) ?_ ?_
   rotate_left
   ·simp only [Act.put, List.setIfInBounds_toArray, List.set_cons_zero, List.set_cons_succ, i64_w, i32_w]
    rfl
   refine pure_ (i := 9) (N := some 20) (v := undef) (a' := ?_) #[true, true, true, true, true, true, true, true, true, true, false, false, false, false, false, false, false, false, false] rfl rfl (by kernel_rfl) (fun _ _ _ h => h) (Or.inr ⟨by rfl, rfl⟩) ?_ ?_
   rotate_left
   ·simp only [Act.put, List.setIfInBounds_toArray, List.set_cons_zero, List.set_cons_succ, i64_w, i32_w]
    rfl
   refine pure_ (i := 10) (N := some 21) (v := undef) (a' := ?_) #[true, true, true, true, true, true, true, true, true, true, true, false, false, false, false, false, false, false, false] rfl rfl (by kernel_rfl) (fun _ _ _ h => h) (Or.inr ⟨by rfl, rfl⟩) ?_ ?_
   rotate_left
   ·simp only [Act.put, List.setIfInBounds_toArray, List.set_cons_zero, List.set_cons_succ, i64_w, i32_w]
    rfl
   refine pure_ (i := 11) (N := some 22) (v := undef) (a' := ?_) #[true, true, true, true, true, true, true, true, true, true, true, true, false, false, false, false, false, false, false] rfl rfl (by kernel_rfl) (fun _ _ _ h => h) (Or.inr ⟨by rfl, rfl⟩) ?_ ?_
   rotate_left
   ·simp only [Act.put, List.setIfInBounds_toArray, List.set_cons_zero, List.set_cons_succ, i64_w, i32_w]
    rfl
   refine pure_ (i := 12) (N := some 23) (v := undef) (a' := ?_) #[true, true, true, true, true, true, true, true, true, true, true, true, true, false, false, false, false, false, false] rfl rfl (by kernel_rfl) (fun _ _ _ h => h) (Or.inr ⟨by rfl, rfl⟩) ?_ ?_
   rotate_left
   ·simp only [Act.put, List.setIfInBounds_toArray, List.set_cons_zero, List.set_cons_succ, i64_w, i32_w]
    rfl
   refine pure_ (i := 13) (N := some 24) (v := undef) (a' := ?_) #[true, true, true, true, true, true, true, true, true, true, true, true, true, true, false, false, false, false, false] rfl rfl (by kernel_rfl) (fun _ _ _ h => h) (Or.inr ⟨by rfl, rfl⟩) ?_ ?_
   rotate_left
   ·simp only [Act.put, List.setIfInBounds_toArray, List.set_cons_zero, List.set_cons_succ, i64_w, i32_w]
    rfl
   refine pure_ (i := 14) (N := some 25) (v := undef) (a' := ?_) #[true, true, true, true, true, true, true, true, true, true, true, true, true, true, true, false, false, false, false] rfl rfl (by kernel_rfl) (fun _ _ _ h => h) (Or.inr ⟨by rfl, rfl⟩) ?_ ?_
   rotate_left
   ·simp only [Act.put, List.setIfInBounds_toArray, List.set_cons_zero, List.set_cons_succ, i64_w, i32_w]
    rfl
   refine pure_ (i := 15) (N := some 26) (v := undef) (a' := ?_) #[true, true, true, true, true, true, true, true, true, true, true, true, true, true, true, true, false, false, false] rfl rfl (by kernel_rfl) (fun _ _ _ h => h) (Or.inr ⟨by rfl, rfl⟩) ?_ ?_
   rotate_left
   ·simp only [Act.put, List.setIfInBounds_toArray, List.set_cons_zero, List.set_cons_succ, i64_w, i32_w]
    rfl
   refine pure_ (i := 16) (N := some 27) (v := undef) (a' := ?_) #[true, true, true, true, true, true, true, true, true, true, true, true, true, true, true, true, true, false, false] rfl rfl (by kernel_rfl) (fun _ _ _ h => h) (Or.inr ⟨by rfl, rfl⟩) ?_ ?_
   rotate_left
   ·simp only [Act.put, List.setIfInBounds_toArray, List.set_cons_zero, List.set_cons_succ, i64_w, i32_w]
    rfl
   refine pure_ (i := 17) (N := some 28) (v := undef) (a' := ?_) #[true, true, true, true, true, true, true, true, true, true, true, true, true, true, true, true, true, true, false] rfl rfl (by kernel_rfl) (fun _ _ _ h => h) (Or.inr ⟨by rfl, rfl⟩) ?_ ?_
   rotate_left
   ·simp only [Act.put, List.setIfInBounds_toArray, List.set_cons_zero, List.set_cons_succ, i64_w, i32_w]
    rfl
   refine pure_ (i := 18) (N := some 29) (v := ?_) (a' := ?_) #[true, true, true, true, true, true, true, true, true, true, true, true, true, true, true, true, true, true, true] rfl rfl (by kernel_rfl) (fun _ _ _ h => h) (Or.inl ⟨by rfl, ?_⟩) ?_ ?_
   rotate_left
   ·intro w'
    go_simp
    with_reducible rfl
   rotate_left
   ·simp only [Act.put, List.setIfInBounds_toArray, List.set_cons_zero, List.set_cons_succ, i64_w, i32_w]
    rfl
   refine done_ (by kernel_rfl) ?_
   go_wp2
   refine bodyPost_ret (results_none rfl _ _ _) rfl ?_
   exact ⟨rfl, HS1.out, Kept.mono HK1.out (fun k hk => .inl hk)⟩
  ·simp only [if_true] at h
   obtain ⟨c, hpr, h⟩ := Option.bind_eq_some_iff.mp h
   by_cases h0 : 0 ≤ s.2
   ·unfold pruned at hpr
    rw [if_pos h0] at hpr
    obtain ⟨b, hb, hpr⟩ := Option.bind_eq_some_iff.mp hpr
    obtain ⟨m, hm, hpr⟩ := Option.bind_eq_some_iff.mp hpr
    have hpr := Option.some.inj hpr
    have HBd := Lib.hid hb
    have HMo := Lib.hid hm
    have h0b : decide (s.2 < 0) = false := by simpa using h0
    clear hb hm
    subst hpr
    by_cases hc : s.2 ≤ wrap64 (b + m)
    ·rw [if_pos (decide_eq_true hc)] at h
     simp only [Option.some.injEq] at h
     subst h
     go_enter Try.func33, Try.ntmps33
     go_wp2
     refine start_ (n := 19) (S := fun w' => w'.cell? ⟨pb, 0, none⟩ = some (.slice A0_0 l0_0.length c0_0) ∧ w'.cell? ⟨pb, 1, none⟩ = some (.slice A0_1 l0_1.length c0_1) ∧ w'.cell? ⟨lb, 0, none⟩ = some (.int .i64 s.2)) (ds := []) #[false, false, false, false, false, false, false, false, false, false, false, false, false, false, false, false, false, false, false] (by kernel_rfl) rfl rfl ⟨hp0, hp1, hp2⟩ (fun hHeld => ?_)
     refine pure_ (i := 1) (N := some 12) (v := ?_) (a' := ?_) #[false, true, false, false, false, false, false, false, false, false, false, false, false, false, false, false, false, false, false] rfl rfl (by kernel_rfl) (fun _ _ _ h => h) (Or.inl ⟨by rfl, ?_⟩) ?_ ?_
     rotate_left
     ·intro w'
      go_simp
      with_reducible rfl
     rotate_left
     ·simp only [Act.put, List.setIfInBounds_toArray, List.set_cons_zero, List.set_cons_succ, i64_w, i32_w]
      rfl
     refine take_ (i := 0) (N := some 11) (v := ?_) (a' := ?_) #[true, true, false, false, false, false, false, false, false, false, false, false, false, false, false, false, false, false, false] rfl rfl (by kernel_rfl) (fun _ _ _ h => h) (Or.inl ⟨by rfl, ?_⟩) hHeld ?_ ?_
     rotate_left
     ·rintro w' ⟨s0, s1, s2⟩
      go_simp
      with_reducible rfl
     rotate_left
     ·simp only [Act.put, List.setIfInBounds_toArray, List.set_cons_zero, List.set_cons_succ, i64_w, i32_w]
      rfl
     refine one_ (i := 2) (N := some 13) #[true, true, true, false, false, false, false, false, false, false, false, false, false, false, false, false, false, false, false] rfl rfl (by kernel_rfl) (by decide) (fun K hK => ?_)
     refine goes_ Try.func29 (by kernel_rfl) rfl #[.agg #[.slice A0_0 l0_0.length c0_0, .slice A0_1 l0_1.length c0_1], .slice A1 x.length c1] (by rfl) rfl rfl (by simp only [List.map_toArray, List.map_cons, List.map_nil]; rfl) ?_
     with_reducible refine (propagate_sv HSd HXd HR0 hc0_0 HR1 hc0_1 _ _ HF).mono ?_
     rintro e w1 ⟨rfl, hS1, hX1, hK1⟩
     refine ⟨_, rfl, ?_⟩
     have HS1 := Lib.hid hS1
     have HX1 := Lib.hid hX1
     obtain ⟨p1_0, p1_1, p1_2⟩ := sv_cells HS1
     have HK1 := Lib.hid hK1
     clear hS1 hX1 hK1
     refine hK.out _ _ ⟨p1_0, p1_1, p1_2⟩ (fun hHeld => ?_)
     clear hK K
     refine norm_ (a' := ?_) ?_ ?_
     rotate_left
     ·show Act.put _ (some 13) _ = _
      simp only [Act.put, List.setIfInBounds_toArray, List.set_cons_zero, List.set_cons_succ, i64_w, i32_w]
      rfl
     refine pure_ (i := 3) (N := some 14) (v := ?_) (a' := ?_) #[true, true, true, true, false, false, false, false, false, false, false, false, false, false, false, false, false, false, false] rfl rfl (by kernel_rfl) (fun _ _ _ h => h) (Or.inl ⟨by rfl, ?_⟩) ?_ ?_
     rotate_left
     ·intro w'
      go_simp
      with_reducible rfl
     rotate_left
     ·simp only [Act.put, List.setIfInBounds_toArray, List.set_cons_zero, List.set_cons_succ, i64_w, i32_w]
      rfl
     refine pure_ (i := 4) (N := some 15) (v := ?_) (a' := ?_) #[true, true, true, true, true, false, false, false, false, false, false, false, false, false, false, false, false, false, false] rfl rfl (by kernel_rfl) (fun _ _ _ h => h) (Or.inl ⟨by rfl, ?_⟩) ?_ ?_
     rotate_left
     ·intro w'
      go_simp
      with_reducible rfl
     rotate_left
     ·simp only [Act.put, List.setIfInBounds_toArray, List.set_cons_zero, List.set_cons_succ, i64_w, i32_w]
      rfl
     refine take_ (i := 5) (N := some 16) (v := ?_) (a' := ?_) #[true, true, true, true, true, true, false, false, false, false, false, false, false, false, false, false, false, false, false] rfl rfl (by kernel_rfl) (fun _ _ _ h => h) (Or.inl ⟨by rfl, ?_⟩) hHeld ?_ ?_
     rotate_left
     ·rintro w' ⟨s0, s1, s2⟩
      go_simp
      with_reducible rfl
     rotate_left
     ·simp only [Act.put, List.setIfInBounds_toArray, List.set_cons_zero, List.set_cons_succ, i64_w, i32_w]
      rfl
     refine pure_ (i := 6) (N := some 17) (v := ?_) (a' := ?_) #[true, true, true, true, true, true, true, false, false, false, false, false, false, false, false, false, false, false, false] rfl rfl (by kernel_rfl) (fun _ _ _ h => h) (Or.inl ⟨by rfl, ?_⟩) ?_ ?_
     rotate_left
     ·intro w'
      go_simp
      with_reducible rfl
     rotate_left
     ·simp only [Act.put, List.setIfInBounds_toArray, List.set_cons_zero, List.set_cons_succ, i64_w, i32_w]
      rfl
     refine pure_ (i := 7) (N := some 18) (v := ?_) (a' := ?_) #[true, true, true, true, true, true, true, true, false, false, false, false, false, false, false, false, false, false, false] rfl rfl (by kernel_rfl) (fun _ _ _ h => h) (Or.inl ⟨by rfl, ?_⟩) ?_ ?_
     rotate_left
     ·intro w'
      go_simp
      with_reducible rfl
     rotate_left
     ·simp only [Act.put, List.setIfInBounds_toArray, List.set_cons_zero, List.set_cons_succ, i64_w, i32_w]
      rfl
     refine pure_ (i := 9) (N := some 20) (v := ?_) (a' := ?_) #[true, true, true, true, true, true, true, true, false, true, false, false, false, false, false, false, false, false, false] rfl rfl (by kernel_rfl) (fun _ _ _ h => h) (Or.inl ⟨by rfl, ?_⟩) ?_ ?_
     rotate_left
     ·intro w'
      go_simp
      with_reducible rfl
     rotate_left
     ·simp only [Act.put, List.setIfInBounds_toArray, List.set_cons_zero, List.set_cons_succ, i64_w, i32_w]
      rfl
     refine pure_ (i := 12) (N := some 23) (v := ?_) (a' := ?_) #[true, true, true, true, true, true, true, true, false, true, false, false, true, false, false, false, false, false, false] rfl rfl (by kernel_rfl) (fun _ _ _ h => h) (Or.inl ⟨by rfl, ?_⟩) ?_ ?_
     rotate_left
     ·intro w'
      go_simp
      with_reducible rfl
     rotate_left
     ·simp only [Act.put, List.setIfInBounds_toArray, List.set_cons_zero, List.set_cons_succ, i64_w, i32_w]
      rfl
     refine take_ (i := 8) (N := some 19) (v := ?_) (a' := ?_) #[true, true, true, true, true, true, true, true, true, true, false, false, true, false, false, false, false, false, false] rfl rfl (by kernel_rfl) (fun _ _ _ h => h) (Or.inl ⟨by rfl, ?_⟩) hHeld ?_ ?_
     rotate_left
     ·rintro w' ⟨s0, s1, s2⟩
      go_simp
      with_reducible rfl
     rotate_left
     ·simp only [Act.put, List.setIfInBounds_toArray, List.set_cons_zero, List.set_cons_succ, i64_w, i32_w]
      rfl
     refine take_ (i := 11) (N := some 22) (v := ?_) (a' := ?_) #[true, true, true, true, true, true, true, true, true, true, false, true, true, false, false, false, false, false, false] rfl rfl (by kernel_rfl) (fun _ _ _ h => h) (Or.inl ⟨by rfl, ?_⟩) hHeld ?_ ?_
     rotate_left
     ·rintro w' ⟨s0, s1, s2⟩
      go_simp
      with_reducible rfl
     rotate_left
     ·simp only [Act.put, List.setIfInBounds_toArray, List.set_cons_zero, List.set_cons_succ, i64_w, i32_w]
      rfl
     refine take_ (i := 15) (N := some 26) (v := ?_) (a' := ?_) #[true, true, true, true, true, true, true, true, true, true, false, true, true, false, false, true, false, false, false] rfl rfl (by kernel_rfl) (fun _ _ _ h => h) (Or.inl ⟨by rfl, ?_⟩) hHeld ?_ ?_
     rotate_left
     ·rintro w' ⟨s0, s1, s2⟩
      go_simp
      with_reducible rfl
     rotate_left
     ·simp only [Act.put, List.setIfInBounds_toArray, List.set_cons_zero, List.set_cons_succ, i64_w, i32_w]
      rfl
     refine one_ (i := 10) (N := some 21) #[true, true, true, true, true, true, true, true, true, true, true, true, true, false, false, true, false, false, false] rfl rfl (by kernel_rfl) (by decide) (fun K hK => ?_)
     refine goes_ Try.func32 (by kernel_rfl) rfl #[.agg #[.slice A0_0 l0_0.length c0_0, .slice A0_1 l0_1.length c0_1], .slice A1 x.length c1] (by rfl) rfl rfl (by simp only [List.map_toArray, List.map_cons, List.map_nil]; rfl) ?_
     with_reducible refine (bound_sv HS1 HX1 HR0 hc0_0 HR1 hc0_1 _ HBd).mono ?_
     rintro e w2 ⟨rfl, hS2, hX2, hb2⟩
     refine ⟨_, rfl, ?_⟩
     have HS2 := Lib.hid hS2
     have HX2 := Lib.hid hX2
     obtain ⟨p2_0, p2_1, p2_2⟩ := sv_cells HS2
     have HK2 := Lib.hid (HK1.out.below hb2)
     clear hS2 hX2 hb2
     refine hK.out _ _ ⟨p2_0, p2_1, p2_2⟩ (fun hHeld => ?_)
     clear hK K
     refine norm_ (a' := ?_) ?_ ?_
     rotate_left
     ·show Act.put _ (some 21) _ = _
      simp only [Act.put, List.setIfInBounds_toArray, List.set_cons_zero, List.set_cons_succ, i64_w, i32_w]
      rfl
     refine one_ (i := 13) (N := some 24) #[true, true, true, true, true, true, true, true, true, true, true, true, true, true, false, true, false, false, false] rfl rfl (by kernel_rfl) (by decide) (fun K hK => ?_)
     refine goes_ Try.func34 (by kernel_rfl) rfl #[.agg #[.slice A0_0 l0_0.length c0_0, .slice A0_1 l0_1.length c0_1], .slice A1 x.length c1] (by rfl) rfl rfl (by simp only [List.map_toArray, List.map_cons, List.map_nil]; rfl) ?_
     with_reducible refine (more_sv HS2 HX2 HR0 hc0_0 HR1 hc0_1 _ HMo).mono ?_
     rintro e w3 ⟨rfl, hS3, hX3, hb3⟩
     refine ⟨_, rfl, ?_⟩
     have HS3 := Lib.hid hS3
     have HX3 := Lib.hid hX3
     obtain ⟨p3_0, p3_1, p3_2⟩ := sv_cells HS3
     have HK3 := Lib.hid (HK2.out.below hb3)
     clear hS3 hX3 hb3
     refine hK.out _ _ ⟨p3_0, p3_1, p3_2⟩ (fun hHeld => ?_)
     clear hK K
     refine norm_ (a' := ?_) ?_ ?_
     rotate_left
     ·show Act.put _ (some 24) _ = _
      simp only [Act.put, List.setIfInBounds_toArray, List.set_cons_zero, List.set_cons_succ, i64_w, i32_w]
      rfl
     refine pure_ (i := 14) (N := some 25) (v := ?_) (a' := ?_) #[true, true, true, true, true, true, true, true, true, true, true, true, true, true, true, true, false, false, false] rfl rfl (by kernel_rfl) (fun _ _ _ h => h) (Or.inl ⟨by rfl, ?_⟩) ?_ ?_
     rotate_left
     ·intro w'
      go_simp
      with_reducible rfl
     rotate_left
     ·simp only [Act.put, List.setIfInBounds_toArray, List.set_cons_zero, List.set_cons_succ, i64_w, i32_w]
      rfl
     refine pure_ (i := 16) (N := some 27) (v := ?_) (a' := ?_) #[true, true, true, true, true, true, true, true, true, true, true, true, true, true, true, true, true, false, false] rfl rfl (by kernel_rfl) (fun _ _ _ h => h) (Or.inl ⟨by rfl, ?_⟩) ?_ ?_
     rotate_left
     ·intro w'
      go_simp
      with_reducible rfl
     rotate_left
     ·simp only [Act.put, List.setIfInBounds_toArray, List.set_cons_zero, List.set_cons_succ, i64_w, i32_w]
      rfl
     refine pure_ (i := 17) (N := some 28) (v := ?_) (a' := ?_) #[true, true, true, true, true, true, true, true, true, true, true, true, true, true, true, true, true, true, false] rfl rfl (by kernel_rfl) (fun _ _ _ h => h) (Or.inl ⟨by rfl, ?_⟩) ?_ ?_
     rotate_left
     ·intro w'
      go_simp
      with_reducible rfl
     rotate_left
     ·simp only [Act.put, List.setIfInBounds_toArray, List.set_cons_zero, List.set_cons_succ, i64_w, i32_w]
      rfl
     refine pure_ (i := 18) (N := some 29) (v := ?_) (a' := ?_) #[true, true, true, true, true, true, true, true, true, true, true, true, true, true, true, true, true, true, true] rfl rfl (by kernel_rfl) (fun _ _ _ h => h) (Or.inl ⟨by rfl, ?_⟩) ?_ ?_
     rotate_left
     ·intro w'
      go_simp
      with_reducible rfl
     rotate_left
     ·simp only [Act.put, List.setIfInBounds_toArray, List.set_cons_zero, List.set_cons_succ, i64_w, i32_w]
      rfl
     refine done_ (by kernel_rfl) ?_
     go_wp2
     refine bodyPost_ret (results_none rfl _ _ _) rfl ?_
     exact ⟨rfl, HS3.out, Kept.mono HK3.out (fun k hk => .inl hk)⟩
    ·rw [if_neg (by simpa using hc)] at h
     have HH := Lib.hid h
     clear h
     go_enter Try.func33, Try.ntmps33
     go_wp2
     refine start_ (n := 19) (S := fun w' => w'.cell? ⟨pb, 0, none⟩ = some (.slice A0_0 l0_0.length c0_0) ∧ w'.cell? ⟨pb, 1, none⟩ = some (.slice A0_1 l0_1.length c0_1) ∧ w'.cell? ⟨lb, 0, none⟩ = some (.int .i64 s.2)) (ds := []) #[false, false, false, false, false, false, false, false, false, false, false, false, false, false, false, false, false, false, false] (by kernel_rfl) rfl rfl ⟨hp0, hp1, hp2⟩ (fun hHeld => ?_)
     refine pure_ (i := 1) (N := some 12) (v := ?_) (a' := ?_) #[false, true, false, false, false, false, false, false, false, false, false, false, false, false, false, false, false, false, false] rfl rfl (by kernel_rfl) (fun _ _ _ h => h) (Or.inl ⟨by rfl, ?_⟩) ?_ ?_
     rotate_left
     ·intro w'
      go_simp
      with_reducible rfl
     rotate_left
     ·simp only [Act.put, List.setIfInBounds_toArray, List.set_cons_zero, List.set_cons_succ, i64_w, i32_w]
      rfl
     refine take_ (i := 0) (N := some 11) (v := ?_) (a' := ?_) #[true, true, false, false, false, false, false, false, false, false, false, false, false, false, false, false, false, false, false] rfl rfl (by kernel_rfl) (fun _ _ _ h => h) (Or.inl ⟨by rfl, ?_⟩) hHeld ?_ ?_
     rotate_left
     ·rintro w' ⟨s0, s1, s2⟩
      go_simp
      with_reducible rfl
     rotate_left
     ·simp only [Act.put, List.setIfInBounds_toArray, List.set_cons_zero, List.set_cons_succ, i64_w, i32_w]
      rfl
     refine one_ (i := 2) (N := some 13) #[true, true, true, false, false, false, false, false, false, false, false, false, false, false, false, false, false, false, false] rfl rfl (by kernel_rfl) (by decide) (fun K hK => ?_)
     refine goes_ Try.func29 (by kernel_rfl) rfl #[.agg #[.slice A0_0 l0_0.length c0_0, .slice A0_1 l0_1.length c0_1], .slice A1 x.length c1] (by rfl) rfl rfl (by simp only [List.map_toArray, List.map_cons, List.map_nil]; rfl) ?_
     with_reducible refine (propagate_sv HSd HXd HR0 hc0_0 HR1 hc0_1 _ _ HF).mono ?_
     rintro e w1 ⟨rfl, hS1, hX1, hK1⟩
     refine ⟨_, rfl, ?_⟩
     have HS1 := Lib.hid hS1
     have HX1 := Lib.hid hX1
     obtain ⟨p1_0, p1_1, p1_2⟩ := sv_cells HS1
     have HK1 := Lib.hid hK1
     clear hS1 hX1 hK1
     refine hK.out _ _ ⟨p1_0, p1_1, p1_2⟩ (fun hHeld => ?_)
     clear hK K
     refine norm_ (a' := ?_) ?_ ?_
     rotate_left
     ·show Act.put _ (some 13) _ = _
      simp only [Act.put, List.setIfInBounds_toArray, List.set_cons_zero, List.set_cons_succ, i64_w, i32_w]
      rfl
     refine pure_ (i := 3) (N := some 14) (v := ?_) (a' := ?_) #[true, true, true, true, false, false, false, false, false, false, false, false, false, false, false, false, false, false, false] rfl rfl (by kernel_rfl) (fun _ _ _ h => h) (Or.inl ⟨by rfl, ?_⟩) ?_ ?_
     rotate_left
     ·intro w'
      go_simp
      with_reducible rfl
     rotate_left
     ·simp only [Act.put, List.setIfInBounds_toArray, List.set_cons_zero, List.set_cons_succ, i64_w, i32_w]
      rfl
     refine pure_ (i := 4) (N := some 15) (v := ?_) (a' := ?_) #[true, true, true, true, true, false, false, false, false, false, false, false, false, false, false, false, false, false, false] rfl rfl (by kernel_rfl) (fun _ _ _ h => h) (Or.inl ⟨by rfl, ?_⟩) ?_ ?_
     rotate_left
     ·intro w'
      go_simp
      with_reducible rfl
     rotate_left
     ·simp only [Act.put, List.setIfInBounds_toArray, List.set_cons_zero, List.set_cons_succ, i64_w, i32_w]
      rfl
     refine take_ (i := 5) (N := some 16) (v := ?_) (a' := ?_) #[true, true, true, true, true, true, false, false, false, false, false, false, false, false, false, false, false, false, false] rfl rfl (by kernel_rfl) (fun _ _ _ h => h) (Or.inl ⟨by rfl, ?_⟩) hHeld ?_ ?_
     rotate_left
     ·rintro w' ⟨s0, s1, s2⟩
      go_simp
      with_reducible rfl
     rotate_left
     ·simp only [Act.put, List.setIfInBounds_toArray, List.set_cons_zero, List.set_cons_succ, i64_w, i32_w]
      rfl
     refine pure_ (i := 6) (N := some 17) (v := ?_) (a' := ?_) #[true, true, true, true, true, true, true, false, false, false, false, false, false, false, false, false, false, false, false] rfl rfl (by kernel_rfl) (fun _ _ _ h => h) (Or.inl ⟨by rfl, ?_⟩) ?_ ?_
     rotate_left
     ·intro w'
      go_simp
      with_reducible rfl
     rotate_left
     ·simp only [Act.put, List.setIfInBounds_toArray, List.set_cons_zero, List.set_cons_succ, i64_w, i32_w]
      rfl
     refine pure_ (i := 7) (N := some 18) (v := ?_) (a' := ?_) #[true, true, true, true, true, true, true, true, false, false, false, false, false, false, false, false, false, false, false] rfl rfl (by kernel_rfl) (fun _ _ _ h => h) (Or.inl ⟨by rfl, ?_⟩) ?_ ?_
     rotate_left
     ·intro w'
      go_simp
      with_reducible rfl
     rotate_left
     ·simp only [Act.put, List.setIfInBounds_toArray, List.set_cons_zero, List.set_cons_succ, i64_w, i32_w]
      rfl
     refine pure_ (i := 9) (N := some 20) (v := ?_) (a' := ?_) #[true, true, true, true, true, true, true, true, false, true, false, false, false, false, false, false, false, false, false] rfl rfl (by kernel_rfl) (fun _ _ _ h => h) (Or.inl ⟨by rfl, ?_⟩) ?_ ?_
     rotate_left
     ·intro w'
      go_simp
      with_reducible rfl
     rotate_left
     ·simp only [Act.put, List.setIfInBounds_toArray, List.set_cons_zero, List.set_cons_succ, i64_w, i32_w]
      rfl
     refine pure_ (i := 12) (N := some 23) (v := ?_) (a' := ?_) #[true, true, true, true, true, true, true, true, false, true, false, false, true, false, false, false, false, false, false] rfl rfl (by kernel_rfl) (fun _ _ _ h => h) (Or.inl ⟨by rfl, ?_⟩) ?_ ?_
     rotate_left
     ·intro w'
      go_simp
      with_reducible rfl
     rotate_left
     ·simp only [Act.put, List.setIfInBounds_toArray, List.set_cons_zero, List.set_cons_succ, i64_w, i32_w]
      rfl
     refine take_ (i := 8) (N := some 19) (v := ?_) (a' := ?_) #[true, true, true, true, true, true, true, true, true, true, false, false, true, false, false, false, false, false, false] rfl rfl (by kernel_rfl) (fun _ _ _ h => h) (Or.inl ⟨by rfl, ?_⟩) hHeld ?_ ?_
     rotate_left
     ·rintro w' ⟨s0, s1, s2⟩
      go_simp
      with_reducible rfl
     rotate_left
     ·simp only [Act.put, List.setIfInBounds_toArray, List.set_cons_zero, List.set_cons_succ, i64_w, i32_w]
      rfl
     refine take_ (i := 11) (N := some 22) (v := ?_) (a' := ?_) #[true, true, true, true, true, true, true, true, true, true, false, true, true, false, false, false, false, false, false] rfl rfl (by kernel_rfl) (fun _ _ _ h => h) (Or.inl ⟨by rfl, ?_⟩) hHeld ?_ ?_
     rotate_left
     ·rintro w' ⟨s0, s1, s2⟩
      go_simp
      with_reducible rfl
     rotate_left
     ·simp only [Act.put, List.setIfInBounds_toArray, List.set_cons_zero, List.set_cons_succ, i64_w, i32_w]
      rfl
     refine take_ (i := 15) (N := some 26) (v := ?_) (a' := ?_) #[true, true, true, true, true, true, true, true, true, true, false, true, true, false, false, true, false, false, false] rfl rfl (by kernel_rfl) (fun _ _ _ h => h) (Or.inl ⟨by rfl, ?_⟩) hHeld ?_ ?_
     rotate_left
     ·rintro w' ⟨s0, s1, s2⟩
      go_simp
      with_reducible rfl
     rotate_left
     ·simp only [Act.put, List.setIfInBounds_toArray, List.set_cons_zero, List.set_cons_succ, i64_w, i32_w]
      rfl
     refine one_ (i := 10) (N := some 21) #[true, true, true, true, true, true, true, true, true, true, true, true, true, false, false, true, false, false, false] rfl rfl (by kernel_rfl) (by decide) (fun K hK => ?_)
     refine goes_ Try.func32 (by kernel_rfl) rfl #[.agg #[.slice A0_0 l0_0.length c0_0, .slice A0_1 l0_1.length c0_1], .slice A1 x.length c1] (by rfl) rfl rfl (by simp only [List.map_toArray, List.map_cons, List.map_nil]; rfl) ?_
     with_reducible refine (bound_sv HS1 HX1 HR0 hc0_0 HR1 hc0_1 _ HBd).mono ?_
     rintro e w2 ⟨rfl, hS2, hX2, hb2⟩
     refine ⟨_, rfl, ?_⟩
     have HS2 := Lib.hid hS2
     have HX2 := Lib.hid hX2
     obtain ⟨p2_0, p2_1, p2_2⟩ := sv_cells HS2
     have HK2 := Lib.hid (HK1.out.below hb2)
     clear hS2 hX2 hb2
     refine hK.out _ _ ⟨p2_0, p2_1, p2_2⟩ (fun hHeld => ?_)
     clear hK K
     refine norm_ (a' := ?_) ?_ ?_
     rotate_left
     ·show Act.put _ (some 21) _ = _
      simp only [Act.put, List.setIfInBounds_toArray, List.set_cons_zero, List.set_cons_succ, i64_w, i32_w]
      rfl
     refine one_ (i := 13) (N := some 24) #[true, true, true, true, true, true, true, true, true, true, true, true, true, true, false, true, false, false, false] rfl rfl (by kernel_rfl) (by decide) (fun K hK => ?_)
     refine goes_ Try.func34 (by kernel_rfl) rfl #[.agg #[.slice A0_0 l0_0.length c0_0, .slice A0_1 l0_1.length c0_1], .slice A1 x.length c1] (by rfl) rfl rfl (by simp only [List.map_toArray, List.map_cons, List.map_nil]; rfl) ?_
     with_reducible refine (more_sv HS2 HX2 HR0 hc0_0 HR1 hc0_1 _ HMo).mono ?_
     rintro e w3 ⟨rfl, hS3, hX3, hb3⟩
     refine ⟨_, rfl, ?_⟩
     have HS3 := Lib.hid hS3
     have HX3 := Lib.hid hX3
     obtain ⟨p3_0, p3_1, p3_2⟩ := sv_cells HS3
     have HK3 := Lib.hid (HK2.out.below hb3)
     clear hS3 hX3 hb3
     refine hK.out _ _ ⟨p3_0, p3_1, p3_2⟩ (fun hHeld => ?_)
     clear hK K
     refine norm_ (a' := ?_) ?_ ?_
     rotate_left
     ·show Act.put _ (some 24) _ = _
      simp only [Act.put, List.setIfInBounds_toArray, List.set_cons_zero, List.set_cons_succ, i64_w, i32_w]
      rfl
     refine pure_ (i := 14) (N := some 25) (v := ?_) (a' := ?_) #[true, true, true, true, true, true, true, true, true, true, true, true, true, true, true, true, false, false, false] rfl rfl (by kernel_rfl) (fun _ _ _ h => h) (Or.inl ⟨by rfl, ?_⟩) ?_ ?_
     rotate_left
     ·intro w'
      go_simp
      with_reducible rfl
     rotate_left
     ·simp only [Act.put, List.setIfInBounds_toArray, List.set_cons_zero, List.set_cons_succ, i64_w, i32_w]
      rfl
     refine pure_ (i := 16) (N := some 27) (v := ?_) (a' := ?_) #[true, true, true, true, true, true, true, true, true, true, true, true, true, true, true, true, true, false, false] rfl rfl (by kernel_rfl) (fun _ _ _ h => h) (Or.inl ⟨by rfl, ?_⟩) ?_ ?_
     rotate_left
     ·intro w'
      go_simp
      with_reducible rfl
     rotate_left
     ·simp only [Act.put, List.setIfInBounds_toArray, List.set_cons_zero, List.set_cons_succ, i64_w, i32_w]
      rfl
     refine pure_ (i := 17) (N := some 28) (v := ?_) (a' := ?_) #[true, true, true, true, true, true, true, true, true, true, true, true, true, true, true, true, true, true, false] rfl rfl (by kernel_rfl) (fun _ _ _ h => h) (Or.inl ⟨by rfl, ?_⟩) ?_ ?_
     rotate_left
     ·intro w'
      go_simp
      with_reducible rfl
     rotate_left
     ·simp only [Act.put, List.setIfInBounds_toArray, List.set_cons_zero, List.set_cons_succ, i64_w, i32_w]
      rfl
     refine pure_ (i := 18) (N := some 29) (v := ?_) (a' := ?_) #[true, true, true, true, true, true, true, true, true, true, true, true, true, true, true, true, true, true, true] rfl rfl (by kernel_rfl) (fun _ _ _ h => h) (Or.inl ⟨by rfl, ?_⟩) ?_ ?_
     rotate_left
     ·intro w'
      go_simp
      with_reducible rfl
     rotate_left
     ·simp only [Act.put, List.setIfInBounds_toArray, List.set_cons_zero, List.set_cons_succ, i64_w, i32_w]
      rfl
     refine done_ (by kernel_rfl) ?_
     clear HSd HXd HS1 HX1 HK1 HS2 HX2 HK2 hp0 hp1 hp2 p1_0 p1_1 p1_2 p2_0 p2_1 p2_2 HBd HMo h0b
     have HS := HS3
     have HX := HX3
     have HK := HK3
     clear HS3 HX3 HK3
     have hcb : decide (s.2 ≤ wrap64 (b + m)) = false := decide_eq_false (by omega)
     simp only [hcb]
     clear hcb hc
     generalize wrap64 (b + m) = bm at *
     have HLEN := Lib.hid (Kd.R_reads' HX.out).1
     have hfo := firstOpen_le y
     go_wp2
     go_loopw [6] (fun i wr => ∃ k : Nat, k ≤ firstOpen y ∧ i = .int .i64 k ∧ Hid (SV w0 pb lb bb sb #[.slice A0_0 l0_0.length c0_0, .slice A0_1 l0_1.length c0_1] wr s) ∧ Hid (OX w0 wr (.slice A1 x.length c1) y) ∧ Hid (Kept w wr (fun k => (Value.slice A1 x.length c1).ownBlock = some k))) (fun i _ => firstOpen y - (intOf i).toNat)
     case atStart => exact ⟨0, Nat.zero_le _, rfl, HS, HX, HK⟩
     case round =>
      clear HS HX HK
      obtain ⟨k, hk, rfl, HS, HX, HK⟩ := hrel
      by_cases hlt : k < firstOpen y
      ·have hne := firstOpen_before y k hlt
       have hxl := HLEN.out
       obtain ⟨ad, rfl, x0⟩ := Kd.at_int (Kd.R_reads' HX.out).2.2 (k : Int) (by omega) (by omega)
       rw [Int.toNat_natCast] at x0
       have hneb : (rd y (k : Int) == -1) = false := by simpa using hne
       have hkl : (k : Int) < x.length := by omega
       generalize rd y (k : Int) = yk at *
       clear hne hxl
       go_wp2
       go_roundw
       case rel => exact ⟨k + 1, by omega, by go_num, HS, HX, HK⟩
       case measure => simp [intOf]; omega
      ·obtain rfl : k = firstOpen y := by omega
       by_cases hend : firstOpen y = y.length
       ·have h := HH.out
        simp only [Bool.false_eq_true, if_false, if_pos hend] at h
        obtain ⟨bv, hbv, h⟩ := Option.bind_eq_some_iff.mp h
        obtain rfl := Option.some.inj h
        have HBV := Lib.hid hbv
        have hmk := print_make_of (P := Try.prog) 34 4 (.bool false) 1 Try.underlying34 info4 rfl (by decide) x.length (by omega)
        have HSd := Lib.hid HS.out.drew
        have HXd := Lib.hid HX.out.drew
        obtain ⟨hp0, hp1, hp2⟩ := sv_cells HSd
        have hbS := below_alloc (Below.refl wr.heap.size wr) (.cells (madeCells #[.bool false] x.length) 4)
        have HSa := Lib.hid (HS.out.below hbS).drew
        have HXa := Lib.hid (HX.out.below hbS).drew
        obtain ⟨pa0, pa1, pa2⟩ := sv_cells HSa
        obtain ⟨n1, n2, n3⟩ := sv_ne HS
        have hxl := HLEN.out
        have hkk : (firstOpen y : Int) = x.length := by omega
        have HEND := Lib.hid hend
        clear hbv h HH hbS hend hlt hfo hk hxl
        generalize hato : firstOpen y = at_ at *
        have hkb : ((at_ : Int) == x.length) = true := by simpa using hkk
        clear hato
        go_wp2
        go_region_held3 (fun w' => w'.cell? ⟨pb, 0, none⟩ = some (.slice A0_0 l0_0.length c0_0) ∧ w'.cell? ⟨pb, 1, none⟩ = some (.slice A0_1 l0_1.length c0_1))
         (first | (refine ⟨?_, ?_⟩ <;> assumption) | (refine ⟨?_, ?_⟩ <;> first | (refine (cell_far n1 _).trans ?_; assumption) | (refine (cell_far n2 _).trans ?_; refine (cell_far n1 _).trans ?_; assumption)) | go_keep)
         ((go_at_call 32; refine (bound_sv (by assumption) (by assumption) HR0 hc0_0 HR1 hc0_1 _ HBV).mono ?_; rintro e w5 ⟨rfl, hS5, hX5, hb5⟩; have HS5 := Lib.hid hS5; have HX5 := Lib.hid hX5; have HB5 := Lib.hid hb5; obtain ⟨q5_0, q5_1, _⟩ := sv_cells HS5; obtain ⟨⟨vb5, q5_2⟩, q5_3, q5_4, q5_5⟩ := sv_store HS5; have HS6 := Lib.hid (hS5.below (below_alloc (Below.refl w5.heap.size w5) (.cells (madeCells #[.bool false] x.length) 4))); obtain ⟨q6_0, q6_1, _⟩ := sv_cells HS6; obtain ⟨⟨vb6, q6_2⟩, q6_3, q6_4, q6_5⟩ := sv_store HS6; clear hS5 hX5 hb5))
        all_goals
         first
          | (have hl := LF.start (b := bv) HS5.out HX5.out (Kept.below (Kept.drew (Kept.alloc HK.out _)) HB5.out) (Kd.R_below (Kd.R_drew (new_bools wr w0.heap.size x.length HS.out.bel.size (by omega) (fun k => w.heap.size ≤ k) HK.out.1)) HB5.out); generalize wr.heap.size = g at hl ⊢)
          | (have hl := LF.start (b := bv) HS6.out (HX5.out.below (below_alloc (Below.refl _ _) _)) (Kept.alloc (Kept.below (Kept.drew HK.out) HB5.out) _) (new_bools w5 w0.heap.size x.length HS5.out.bel.size (by omega) (fun k => w.heap.size ≤ k) (Nat.le_trans HK.out.1 HB5.out.size)); generalize w5.heap.size = g at hl ⊢)
         have HL := Lib.hid hl
         clear hl HS5 HX5 HB5 HS6 HSd HXd HSa HXa HS HX HK
         have hyl : (y.map (fun v => v == 1)).length = x.length := by rw [List.length_map]; exact HLEN.out.symm
         have HYL := Lib.hid hyl
         clear hyl
         go_wp2
         go_loopw [55] (fun i wi => ∃ k : Nat, k ≤ x.length ∧ i = .int .i64 k ∧ Hid (LF w0 pb lb bb sb #[.slice A0_0 l0_0.length c0_0, .slice A0_1 l0_1.length c0_1] w (.slice A1 x.length c1) y bv g x.length wi ((y.map (fun v => v == 1)).take k ++ List.replicate (x.length - k) false))) (fun i _ => x.length - (intOf i).toNat)
         case atStart => exact ⟨0, Nat.zero_le _, rfl, Lib.hid (by have h := HL.out; rw [show (y.map (fun v => v == 1)).take 0 ++ List.replicate (x.length - 0) false = List.replicate x.length false by simp]; exact h)⟩
         case round =>
          clear HL
          obtain ⟨k, hk, rfl, HL⟩ := hrel
          by_cases hlt : k < x.length
          ·have hxl := HLEN.out
           obtain ⟨ad, rfl, x0⟩ := Kd.at_int (Kd.R_reads' HL.out.own).2.2 (k : Int) (by omega) (by omega)
           rw [Int.toNat_natCast] at x0
           have f0 := (blk_cell HL.out.bst 0).trans rfl
           obtain ⟨f1, f2⟩ := Kd.R_celln false HL.out.row (k : Int) (by omega) (by omega)
           have hp := HL.out.put (k : Int) (rd y (k : Int) == 1)
           rw [Int.toNat_natCast, take_set HYL.out hlt _ (by simp [rd, List.getD_eq_getElem?_getD, List.getElem?_eq_getElem (show k < y.length by omega)])] at hp
           have HP := Lib.hid hp
           rw [Int.toNat_natCast] at f1 f2
           clear hp hxl
           generalize rd y (k : Int) = yk at *
           go_wp2
           go_roundw
           case rel => exact ⟨k + 1, by omega, by go_num, HP⟩
           case measure => simp [intOf]; omega
          ·obtain rfl : k = x.length := by omega
           have hd := HL.out.done
           rw [Nat.sub_self, List.replicate_zero, List.append_nil, ← HYL.out, List.take_length] at hd
           have HD := Lib.hid hd
           clear hd
           go_wp2
           refine bodyPost_ret (results_none rfl _ _ _) rfl ?_
           exact ⟨rfl, HD.out, HL.out.kept⟩
       ·have hat : firstOpen y < y.length := by omega
        have hm1 := firstOpen_at y hat
        have hxl := HLEN.out
        obtain ⟨ad, rfl, x0⟩ := Kd.at_int (Kd.R_reads' HX.out).2.2 (firstOpen y : Int) (by omega) (by omega)
        rw [Int.toNat_natCast, hm1] at x0
        have h := HH.out
        simp only [Bool.false_eq_true, if_false, hend] at h
        obtain ⟨s1, h1, h2⟩ := Option.bind_eq_some_iff.mp h
        have H1 := Lib.hid h1
        have H2 := Lib.hid h2
        have hkl : (firstOpen y : Int) < x.length := by omega
        have hkn : ((firstOpen y : Int) == x.length) = false := by simp; omega
        have HE := Lib.hid hend
        have hfl : firstOpen y ≤ 64 := by omega
        clear h h1 h2 HH hm1 hxl hend hlt hfo hk
        have HAT := Lib.hid hat
        clear hat
        generalize hato : firstOpen y = at_ at *
        have HATO := Lib.hid hato
        clear hato
        go_wp2
        go_loopw [66] (fun i wr => ∃ (k : Nat) (sk : List Bool × Int), i = .int .i64 k ∧ Hid ((k = 0 ∧ sk = s) ∨ (k = 1 ∧ sk = s1) ∨ (k = 2 ∧ sk = s')) ∧ Hid (SV w0 pb lb bb sb #[.slice A0_0 l0_0.length c0_0, .slice A0_1 l0_1.length c0_1] wr sk) ∧ Hid (OX w0 wr (.slice (some ad) x.length c1) y) ∧ Hid (Kept w wr (SW (.slice (some ad) x.length c1) lb bb))) (fun i _ => 2 - (intOf i).toNat)
        case atStart => exact ⟨0, s, rfl, .inl ⟨rfl, rfl⟩, HS, HX, HK.out.mono (fun k hk => .inl hk)⟩
        case round =>
         clear HS HX HK x0
         obtain ⟨k, sk, rfl, HKS, HS, HX, HK⟩ := hrel
         by_cases hk2 : k < 2
         ·have e9 : wr.cell? ⟨sb, 0, none⟩ = some (.func (.func 33) #[] #[.pointer (some ⟨pb, 0, none⟩), .pointer (some ⟨lb, 0, none⟩), .pointer (some ⟨bb, 0, none⟩), .pointer (some ⟨sb, 0, none⟩)]) := (blk_cell HS.out.fn 0).trans rfl
          have hsr : ∃ sn, srch l0_0 l0_1 n (y.set at_ (k : Int)) sk = some sn ∧ ((k + 1 = 0 ∧ sn = s) ∨ (k + 1 = 1 ∧ sn = s1) ∨ (k + 1 = 2 ∧ sn = s')) := by
           rcases HKS.out with ⟨rfl, rfl⟩ | ⟨rfl, rfl⟩ | ⟨rfl, rfl⟩
           ·exact ⟨s1, H1.out, .inr (.inl ⟨rfl, rfl⟩)⟩
           ·exact ⟨s', H2.out, .inr (.inr ⟨rfl, rfl⟩)⟩
           ·omega
          obtain ⟨sn, hsr, hks⟩ := hsr
          have HSR := Lib.hid hsr
          have HKS2 := Lib.hid hks
          clear hsr hks HKS
          have hk2 : (k : Int) < 2 := by omega
          go_wp2_with (first
           | ((with_reducible refine gate_builtin (b := .append) (xs := #[.tmp 69, .tmp 70]) rfl ?_); at_builtin; refine Kd.R_append_rows (Kd.int .i64) (Rr := (Kd.int .i64).K (wr.alloc (.cells #[] 3))) (w0 := w0) w0.heap.size rfl (.tmp 69) (.tmp 70) 26 3 (.int .i64 0) 8 rfl Try.underlying26 info3 rfl (by decide) (by omega) (.slice (some ⟨wr.heap.size, 0, none⟩) 0 0) ([] : List Int) y (some ad) x.length c1 (fun k => wr.heap.size ≤ k) (fun _ => False) rfl rfl (R_empty wr _ HS.out.bel.size) (Kd.C_alloc (HLEN.out ▸ (Kd.R_reads' HX.out).2.2) _) ?aK (fun _ hk => hk.elim) ?aF (below_alloc HS.out.bel _) ?aS ?aL ?_; (case aK => exact fun _ _ h => h); (case aF => intro q hq; have h1 : (wr.alloc (.cells #[] 3)).heap.size = wr.heap.size + 1 := Array.size_push _; omega); (case aS => have h1 : (wr.alloc (.cells #[] 3)).heap.size = wr.heap.size + 1 := Array.size_push _; have := HS.out.bel.size; omega); (case aL => simp; omega); intro v2 w2 ho hb hg hat; rw [List.nil_append] at ho; have HO2 := Lib.hid ho; have HB2 := Lib.hid (grown_empty hg); clear ho hb hg hat; obtain ⟨g, cap, hv2, _, _, _⟩ := Kd.R_form HO2.out (by have := HAT.out; omega); rw [← HLEN.out] at hv2; subst hv2; have hgg := HO2.out.1 g rfl; obtain ⟨z0, z1⟩ := Kd.R_celln 0 HO2.out (at_ : Int) (by omega) (by omega); rw [Int.toNat_natCast] at z0 z1; have hOP := OX.put HO2.out (at_ : Int) (k : Int); rw [Int.toNat_natCast] at hOP; have HOP := Lib.hid hOP; have HB3 := Lib.hid (below_set (v := .int .i64 (k : Int)) (j := at_) HB2.out hgg); have HS3 := Lib.hid (HS.out.below HB3.out); have HX3 := Lib.hid (HX.out.below HB3.out); have HK3 := Lib.hid (HK.out.below HB3.out); have e9 : (w2.setCell ⟨g, at_, none⟩ (.int .i64 (k : Int))).cell? ⟨sb, 0, none⟩ = some (.func (.func 33) #[] #[.pointer (some ⟨pb, 0, none⟩), .pointer (some ⟨lb, 0, none⟩), .pointer (some ⟨bb, 0, none⟩), .pointer (some ⟨sb, 0, none⟩)]) := (blk_cell HS3.out.fn 0).trans rfl; clear hOP)
           | (go_at_call 33; refine (call_ih IH.out HSR HS3 HOP HLEN hx).mono ?_; rintro e w4 ⟨rfl, hS4, hK4⟩; have HS4 := Lib.hid hS4; have HX4 := Lib.hid (HX3.out.kept HS3.out hK4 (fun q h1 h2 => by have h3 := Kd.R_lt HX.out q h1; have h4 := own_some h2; omega)); have HK4 := Lib.hid (HK3.out.then_ hK4 (fun q hq => by rcases hq with hq | hq; (have h4 := own_some hq; exact .inr (by have := HK.out.1; omega)); exact .inl (.inr hq))); clear hS4 hK4))
          go_roundw
          case rel => exact ⟨k + 1, sn, by go_num, HKS2, HS4, HX4, HK4⟩
          case measure => simp [intOf]; omega
         ·obtain ⟨rfl, rfl⟩ : k = 2 ∧ sk = s' := by
           rcases HKS.out with ⟨rfl, rfl⟩ | ⟨rfl, rfl⟩ | h2
           ·omega
           ·omega
           ·exact h2
          go_wp2
          refine bodyPost_end (results_none rfl _ _ _) rfl ?_
          exact ⟨rfl, HS.out, HK.out⟩
   ·have h0b : decide (0 ≤ s.2) = false := decide_eq_false h0
    unfold pruned at hpr
    rw [if_neg h0] at hpr
    have hpr := Option.some.inj hpr
    subst hpr
    have HH := Lib.hid h
    clear h
    go_enter Try.func33, Try.ntmps33
    go_wp2
    refine start_ (n := 19) (S := fun w' => w'.cell? ⟨pb, 0, none⟩ = some (.slice A0_0 l0_0.length c0_0) ∧ w'.cell? ⟨pb, 1, none⟩ = some (.slice A0_1 l0_1.length c0_1) ∧ w'.cell? ⟨lb, 0, none⟩ = some (.int .i64 s.2)) (ds := []) #[false, false, false, false, false, false, false, false, false, false, false, false, false, false, false, false, false, false, false] (by kernel_rfl) rfl rfl ⟨hp0, hp1, hp2⟩ (fun hHeld => ?_)
    refine pure_ (i := 1) (N := some 12) (v := ?_) (a' := ?_) #[false, true, false, false, false, false, false, false, false, false, false, false, false, false, false, false, false, false, false] rfl rfl (by kernel_rfl) (fun _ _ _ h => h) (Or.inl ⟨by rfl, ?_⟩) ?_ ?_
    rotate_left
    ·intro w'
     go_simp
     with_reducible rfl
    rotate_left
    ·simp only [Act.put, List.setIfInBounds_toArray, List.set_cons_zero, List.set_cons_succ, i64_w, i32_w]
     rfl
    refine take_ (i := 0) (N := some 11) (v := ?_) (a' := ?_) #[true, true, false, false, false, false, false, false, false, false, false, false, false, false, false, false, false, false, false] rfl rfl (by kernel_rfl) (fun _ _ _ h => h) (Or.inl ⟨by rfl, ?_⟩) hHeld ?_ ?_
    rotate_left
    ·rintro w' ⟨s0, s1, s2⟩
     go_simp
     with_reducible rfl
    rotate_left
    ·simp only [Act.put, List.setIfInBounds_toArray, List.set_cons_zero, List.set_cons_succ, i64_w, i32_w]
     rfl
    refine one_ (i := 2) (N := some 13) #[true, true, true, false, false, false, false, false, false, false, false, false, false, false, false, false, false, false, false] rfl rfl (by kernel_rfl) (by decide) (fun K hK => ?_)
    refine goes_ Try.func29 (by kernel_rfl) rfl #[.agg #[.slice A0_0 l0_0.length c0_0, .slice A0_1 l0_1.length c0_1], .slice A1 x.length c1] (by rfl) rfl rfl (by simp only [List.map_toArray, List.map_cons, List.map_nil]; rfl) ?_
    with_reducible refine (propagate_sv HSd HXd HR0 hc0_0 HR1 hc0_1 _ _ HF).mono ?_
    rintro e w1 ⟨rfl, hS1, hX1, hK1⟩
    refine ⟨_, rfl, ?_⟩
    have HS1 := Lib.hid hS1
    have HX1 := Lib.hid hX1
    obtain ⟨p1_0, p1_1, p1_2⟩ := sv_cells HS1
    have HK1 := Lib.hid hK1
    clear hS1 hX1 hK1
    refine hK.out _ _ ⟨p1_0, p1_1, p1_2⟩ (fun hHeld => ?_)
    clear hK K
    refine norm_ (a' := ?_) ?_ ?_
    rotate_left
    ·show Act.put _ (some 13) _ = _
     simp only [Act.put, List.setIfInBounds_toArray, List.set_cons_zero, List.set_cons_succ, i64_w, i32_w]
     rfl
    refine pure_ (i := 3) (N := some 14) (v := ?_) (a' := ?_) #[true, true, true, true, false, false, false, false, false, false, false, false, false, false, false, false, false, false, false] rfl rfl (by kernel_rfl) (fun _ _ _ h => h) (Or.inl ⟨by rfl, ?_⟩) ?_ ?_
    rotate_left
    ·intro w'
     go_simp
     with_reducible rfl
    rotate_left
    ·simp only [Act.put, List.setIfInBounds_toArray, List.set_cons_zero, List.set_cons_succ, i64_w, i32_w]
     rfl
    refine pure_ (i := 4) (N := some 15) (v := ?_) (a' := ?_) #[true, true, true, true, true, false, false, false, false, false, false, false, false, false, false, false, false, false, false] rfl rfl (by kernel_rfl) (fun _ _ _ h => h) (Or.inl ⟨by rfl, ?_⟩) ?_ ?_
    rotate_left
    ·intro w'
     go_simp
     with_reducible rfl
    rotate_left
    ·simp only [Act.put, List.setIfInBounds_toArray, List.set_cons_zero, List.set_cons_succ, i64_w, i32_w]
     rfl
    refine take_ (i := 5) (N := some 16) (v := ?_) (a' := ?_) #[true, true, true, true, true, true, false, false, false, false, false, false, false, false, false, false, false, false, false] rfl rfl (by kernel_rfl) (fun _ _ _ h => h) (Or.inl ⟨by rfl, ?_⟩) hHeld ?_ ?_
    rotate_left
    ·rintro w' ⟨s0, s1, s2⟩
     go_simp
     with_reducible rfl
    rotate_left
    ·simp only [Act.put, List.setIfInBounds_toArray, List.set_cons_zero, List.set_cons_succ, i64_w, i32_w]
     rfl
    refine pure_ (i := 6) (N := some 17) (v := ?_) (a' := ?_) #[true, true, true, true, true, true, true, false, false, false, false, false, false, false, false, false, false, false, false] rfl rfl (by kernel_rfl) (fun _ _ _ h => h) (Or.inl ⟨by rfl, ?_⟩) ?_ ?_
    rotate_left
    ·intro w'
     go_simp
     with_reducible rfl
    rotate_left
    ·simp only [Act.put, List.setIfInBounds_toArray, List.set_cons_zero, List.set_cons_succ, i64_w, i32_w]
     rfl
    refine pure_ (i := 7) (N := some 18) (v := ?_) (a' := ?_) #[true, true, true, true, true, true, true, true, false, false, false, false, false, false, false, false, false, false, false] rfl rfl (by kernel_rfl) (fun _ _ _ h => h) (Or.inl ⟨by rfl, ?_⟩) ?_ ?_
    rotate_left
    ·intro w'
     go_simp
     with_reducible rfl
    rotate_left
    ·simp only [Act.put, List.setIfInBounds_toArray, List.set_cons_zero, List.set_cons_succ, i64_w, i32_w]
     rfl
    refine pure_ (i := 8) (N := some 19) (v := undef) (a' := ?_) #[true, true, true, true, true, true, true, true, true, false, false, false, false, false, false, false, false, false, false] rfl rfl (by kernel_rfl) (fun _ _ _ h => h) (Or.inr ⟨by rfl, rfl⟩) ?_ ?_
    rotate_left
    ·simp only [Act.put, List.setIfInBounds_toArray, List.set_cons_zero, List.set_cons_succ, i64_w, i32_w]
     rfl
    refine pure_ (i := 9) (N := some 20) (v := undef) (a' := ?_) #[true, true, true, true, true, true, true, true, true, true, false, false, false, false, false, false, false, false, false] rfl rfl (by kernel_rfl) (fun _ _ _ h => h) (Or.inr ⟨by rfl, rfl⟩) ?_ ?_
    rotate_left
    ·simp only [Act.put, List.setIfInBounds_toArray, List.set_cons_zero, List.set_cons_succ, i64_w, i32_w]
     rfl
    refine pure_ (i := 10) (N := some 21) (v := undef) (a' := ?_) #[true, true, true, true, true, true, true, true, true, true, true, false, false, false, false, false, false, false, false] rfl rfl (by kernel_rfl) (fun _ _ _ h => h) (Or.inr ⟨by rfl, rfl⟩) ?_ ?_
    rotate_left
    ·simp only [Act.put, List.setIfInBounds_toArray, List.set_cons_zero, List.set_cons_succ, i64_w, i32_w]
     rfl
    refine pure_ (i := 11) (N := some 22) (v := undef) (a' := ?_) #[true, true, true, true, true, true, true, true, true, true, true, true, false, false, false, false, false, false, false] rfl rfl (by kernel_rfl) (fun _ _ _ h => h) (Or.inr ⟨by rfl, rfl⟩) ?_ ?_
    rotate_left
    ·simp only [Act.put, List.setIfInBounds_toArray, List.set_cons_zero, List.set_cons_succ, i64_w, i32_w]
     rfl
    refine pure_ (i := 12) (N := some 23) (v := undef) (a' := ?_) #[true, true, true, true, true, true, true, true, true, true, true, true, true, false, false, false, false, false, false] rfl rfl (by kernel_rfl) (fun _ _ _ h => h) (Or.inr ⟨by rfl, rfl⟩) ?_ ?_
    rotate_left
    ·simp only [Act.put, List.setIfInBounds_toArray, List.set_cons_zero, List.set_cons_succ, i64_w, i32_w]
     rfl
    refine pure_ (i := 13) (N := some 24) (v := undef) (a' := ?_) #[true, true, true, true, true, true, true, true, true, true, true, true, true, true, false, false, false, false, false] rfl rfl (by kernel_rfl) (fun _ _ _ h => h) (Or.inr ⟨by rfl, rfl⟩) ?_ ?_
    rotate_left
    ·simp only [Act.put, List.setIfInBounds_toArray, List.set_cons_zero, List.set_cons_succ, i64_w, i32_w]
     rfl
    refine pure_ (i := 14) (N := some 25) (v := undef) (a' := ?_) #[true, true, true, true, true, true, true, true, true, true, true, true, true, true, true, false, false, false, false] rfl rfl (by kernel_rfl) (fun _ _ _ h => h) (Or.inr ⟨by rfl, rfl⟩) ?_ ?_
    rotate_left
    ·simp only [Act.put, List.setIfInBounds_toArray, List.set_cons_zero, List.set_cons_succ, i64_w, i32_w]
     rfl
    refine pure_ (i := 15) (N := some 26) (v := undef) (a' := ?_) #[true, true, true, true, true, true, true, true, true, true, true, true, true, true, true, true, false, false, false] rfl rfl (by kernel_rfl) (fun _ _ _ h => h) (Or.inr ⟨by rfl, rfl⟩) ?_ ?_
    rotate_left
    ·simp only [Act.put, List.setIfInBounds_toArray, List.set_cons_zero, List.set_cons_succ, i64_w, i32_w]
     rfl
    refine pure_ (i := 16) (N := some 27) (v := undef) (a' := ?_) #[true, true, true, true, true, true, true, true, true, true, true, true, true, true, true, true, true, false, false] rfl rfl (by kernel_rfl) (fun _ _ _ h => h) (Or.inr ⟨by rfl, rfl⟩) ?_ ?_
    rotate_left
    ·simp only [Act.put, List.setIfInBounds_toArray, List.set_cons_zero, List.set_cons_succ, i64_w, i32_w]
     rfl
    refine pure_ (i := 17) (N := some 28) (v := ?_) (a' := ?_) #[true, true, true, true, true, true, true, true, true, true, true, true, true, true, true, true, true, true, false] rfl rfl (by kernel_rfl) (fun _ _ _ h => h) (Or.inl ⟨by rfl, ?_⟩) ?_ ?_
    rotate_left
    ·intro w'
     go_simp
     with_reducible rfl
    rotate_left
    ·simp only [Act.put, List.setIfInBounds_toArray, List.set_cons_zero, List.set_cons_succ, i64_w, i32_w]
     rfl
    refine pure_ (i := 18) (N := some 29) (v := ?_) (a' := ?_) #[true, true, true, true, true, true, true, true, true, true, true, true, true, true, true, true, true, true, true] rfl rfl (by kernel_rfl) (fun _ _ _ h => h) (Or.inl ⟨by rfl, ?_⟩) ?_ ?_
    rotate_left
    ·intro w'
     go_simp
     with_reducible rfl
    rotate_left
    ·simp only [Act.put, List.setIfInBounds_toArray, List.set_cons_zero, List.set_cons_succ, i64_w, i32_w]
     rfl
    refine done_ (by kernel_rfl) ?_
    clear HSd HXd hp0 hp1 hp2
    have HS := HS1
    have HX := HX1
    have HK := HK1
    clear HS1 HX1 HK1
    have HLEN := Lib.hid (Kd.R_reads' HX.out).1
    have hfo := firstOpen_le y
    go_wp2
    go_loopw [6] (fun i wr => ∃ k : Nat, k ≤ firstOpen y ∧ i = .int .i64 k ∧ Hid (SV w0 pb lb bb sb #[.slice A0_0 l0_0.length c0_0, .slice A0_1 l0_1.length c0_1] wr s) ∧ Hid (OX w0 wr (.slice A1 x.length c1) y) ∧ Hid (Kept w wr (fun k => (Value.slice A1 x.length c1).ownBlock = some k))) (fun i _ => firstOpen y - (intOf i).toNat)
    case atStart => exact ⟨0, Nat.zero_le _, rfl, HS, HX, HK⟩
    case round =>
     clear HS HX HK
     obtain ⟨k, hk, rfl, HS, HX, HK⟩ := hrel
     by_cases hlt : k < firstOpen y
     ·have hne := firstOpen_before y k hlt
      have hxl := HLEN.out
      obtain ⟨ad, rfl, x0⟩ := Kd.at_int (Kd.R_reads' HX.out).2.2 (k : Int) (by omega) (by omega)
      rw [Int.toNat_natCast] at x0
      have hneb : (rd y (k : Int) == -1) = false := by simpa using hne
      have hkl : (k : Int) < x.length := by omega
      generalize rd y (k : Int) = yk at *
      clear hne hxl
      go_wp2
      go_roundw
      case rel => exact ⟨k + 1, by omega, by go_num, HS, HX, HK⟩
      case measure => simp [intOf]; omega
     ·obtain rfl : k = firstOpen y := by omega
      by_cases hend : firstOpen y = y.length
      ·have h := HH.out
       simp only [Bool.false_eq_true, if_false, if_pos hend] at h
       obtain ⟨bv, hbv, h⟩ := Option.bind_eq_some_iff.mp h
       obtain rfl := Option.some.inj h
       have HBV := Lib.hid hbv
       have hmk := print_make_of (P := Try.prog) 34 4 (.bool false) 1 Try.underlying34 info4 rfl (by decide) x.length (by omega)
       have HSd := Lib.hid HS.out.drew
       have HXd := Lib.hid HX.out.drew
       obtain ⟨hp0, hp1, hp2⟩ := sv_cells HSd
       have hbS := below_alloc (Below.refl wr.heap.size wr) (.cells (madeCells #[.bool false] x.length) 4)
       have HSa := Lib.hid (HS.out.below hbS).drew
       have HXa := Lib.hid (HX.out.below hbS).drew
       obtain ⟨pa0, pa1, pa2⟩ := sv_cells HSa
       obtain ⟨n1, n2, n3⟩ := sv_ne HS
       have hxl := HLEN.out
       have hkk : (firstOpen y : Int) = x.length := by omega
       have HEND := Lib.hid hend
       clear hbv h HH hbS hend hlt hfo hk hxl
       generalize hato : firstOpen y = at_ at *
       have hkb : ((at_ : Int) == x.length) = true := by simpa using hkk
       clear hato
       go_wp2
       go_region_held3 (fun w' => w'.cell? ⟨pb, 0, none⟩ = some (.slice A0_0 l0_0.length c0_0) ∧ w'.cell? ⟨pb, 1, none⟩ = some (.slice A0_1 l0_1.length c0_1))
        (first | (refine ⟨?_, ?_⟩ <;> assumption) | (refine ⟨?_, ?_⟩ <;> first | (refine (cell_far n1 _).trans ?_; assumption) | (refine (cell_far n2 _).trans ?_; refine (cell_far n1 _).trans ?_; assumption)) | go_keep)
        ((go_at_call 32; refine (bound_sv (by assumption) (by assumption) HR0 hc0_0 HR1 hc0_1 _ HBV).mono ?_; rintro e w5 ⟨rfl, hS5, hX5, hb5⟩; have HS5 := Lib.hid hS5; have HX5 := Lib.hid hX5; have HB5 := Lib.hid hb5; obtain ⟨q5_0, q5_1, _⟩ := sv_cells HS5; obtain ⟨⟨vb5, q5_2⟩, q5_3, q5_4, q5_5⟩ := sv_store HS5; have HS6 := Lib.hid (hS5.below (below_alloc (Below.refl w5.heap.size w5) (.cells (madeCells #[.bool false] x.length) 4))); obtain ⟨q6_0, q6_1, _⟩ := sv_cells HS6; obtain ⟨⟨vb6, q6_2⟩, q6_3, q6_4, q6_5⟩ := sv_store HS6; clear hS5 hX5 hb5))
       all_goals
        first
         | (have hl := LF.start (b := bv) HS5.out HX5.out (Kept.below (Kept.drew (Kept.alloc HK.out _)) HB5.out) (Kd.R_below (Kd.R_drew (new_bools wr w0.heap.size x.length HS.out.bel.size (by omega) (fun k => w.heap.size ≤ k) HK.out.1)) HB5.out); generalize wr.heap.size = g at hl ⊢)
         | (have hl := LF.start (b := bv) HS6.out (HX5.out.below (below_alloc (Below.refl _ _) _)) (Kept.alloc (Kept.below (Kept.drew HK.out) HB5.out) _) (new_bools w5 w0.heap.size x.length HS5.out.bel.size (by omega) (fun k => w.heap.size ≤ k) (Nat.le_trans HK.out.1 HB5.out.size)); generalize w5.heap.size = g at hl ⊢)
        have HL := Lib.hid hl
        clear hl HS5 HX5 HB5 HS6 HSd HXd HSa HXa HS HX HK
        have hyl : (y.map (fun v => v == 1)).length = x.length := by rw [List.length_map]; exact HLEN.out.symm
        have HYL := Lib.hid hyl
        clear hyl
        go_wp2
        go_loopw [55] (fun i wi => ∃ k : Nat, k ≤ x.length ∧ i = .int .i64 k ∧ Hid (LF w0 pb lb bb sb #[.slice A0_0 l0_0.length c0_0, .slice A0_1 l0_1.length c0_1] w (.slice A1 x.length c1) y bv g x.length wi ((y.map (fun v => v == 1)).take k ++ List.replicate (x.length - k) false))) (fun i _ => x.length - (intOf i).toNat)
        case atStart => exact ⟨0, Nat.zero_le _, rfl, Lib.hid (by have h := HL.out; rw [show (y.map (fun v => v == 1)).take 0 ++ List.replicate (x.length - 0) false = List.replicate x.length false by simp]; exact h)⟩
        case round =>
         clear HL
         obtain ⟨k, hk, rfl, HL⟩ := hrel
         by_cases hlt : k < x.length
         ·have hxl := HLEN.out
          obtain ⟨ad, rfl, x0⟩ := Kd.at_int (Kd.R_reads' HL.out.own).2.2 (k : Int) (by omega) (by omega)
          rw [Int.toNat_natCast] at x0
          have f0 := (blk_cell HL.out.bst 0).trans rfl
          obtain ⟨f1, f2⟩ := Kd.R_celln false HL.out.row (k : Int) (by omega) (by omega)
          have hp := HL.out.put (k : Int) (rd y (k : Int) == 1)
          rw [Int.toNat_natCast, take_set HYL.out hlt _ (by simp [rd, List.getD_eq_getElem?_getD, List.getElem?_eq_getElem (show k < y.length by omega)])] at hp
          have HP := Lib.hid hp
          rw [Int.toNat_natCast] at f1 f2
          clear hp hxl
          generalize rd y (k : Int) = yk at *
          go_wp2
          go_roundw
          case rel => exact ⟨k + 1, by omega, by go_num, HP⟩
          case measure => simp [intOf]; omega
         ·obtain rfl : k = x.length := by omega
          have hd := HL.out.done
          rw [Nat.sub_self, List.replicate_zero, List.append_nil, ← HYL.out, List.take_length] at hd
          have HD := Lib.hid hd
          clear hd
          go_wp2
          refine bodyPost_ret (results_none rfl _ _ _) rfl ?_
          exact ⟨rfl, HD.out, HL.out.kept⟩
      ·have hat : firstOpen y < y.length := by omega
       have hm1 := firstOpen_at y hat
       have hxl := HLEN.out
       obtain ⟨ad, rfl, x0⟩ := Kd.at_int (Kd.R_reads' HX.out).2.2 (firstOpen y : Int) (by omega) (by omega)
       rw [Int.toNat_natCast, hm1] at x0
       have h := HH.out
       simp only [Bool.false_eq_true, if_false, hend] at h
       obtain ⟨s1, h1, h2⟩ := Option.bind_eq_some_iff.mp h
       have H1 := Lib.hid h1
       have H2 := Lib.hid h2
       have hkl : (firstOpen y : Int) < x.length := by omega
       have hkn : ((firstOpen y : Int) == x.length) = false := by simp; omega
       have HE := Lib.hid hend
       have hfl : firstOpen y ≤ 64 := by omega
       clear h h1 h2 HH hm1 hxl hend hlt hfo hk
       have HAT := Lib.hid hat
       clear hat
       generalize hato : firstOpen y = at_ at *
       have HATO := Lib.hid hato
       clear hato
       go_wp2
       go_loopw [66] (fun i wr => ∃ (k : Nat) (sk : List Bool × Int), i = .int .i64 k ∧ Hid ((k = 0 ∧ sk = s) ∨ (k = 1 ∧ sk = s1) ∨ (k = 2 ∧ sk = s')) ∧ Hid (SV w0 pb lb bb sb #[.slice A0_0 l0_0.length c0_0, .slice A0_1 l0_1.length c0_1] wr sk) ∧ Hid (OX w0 wr (.slice (some ad) x.length c1) y) ∧ Hid (Kept w wr (SW (.slice (some ad) x.length c1) lb bb))) (fun i _ => 2 - (intOf i).toNat)
       case atStart => exact ⟨0, s, rfl, .inl ⟨rfl, rfl⟩, HS, HX, HK.out.mono (fun k hk => .inl hk)⟩
       case round =>
        clear HS HX HK x0
        obtain ⟨k, sk, rfl, HKS, HS, HX, HK⟩ := hrel
        by_cases hk2 : k < 2
        ·have e9 : wr.cell? ⟨sb, 0, none⟩ = some (.func (.func 33) #[] #[.pointer (some ⟨pb, 0, none⟩), .pointer (some ⟨lb, 0, none⟩), .pointer (some ⟨bb, 0, none⟩), .pointer (some ⟨sb, 0, none⟩)]) := (blk_cell HS.out.fn 0).trans rfl
         have hsr : ∃ sn, srch l0_0 l0_1 n (y.set at_ (k : Int)) sk = some sn ∧ ((k + 1 = 0 ∧ sn = s) ∨ (k + 1 = 1 ∧ sn = s1) ∨ (k + 1 = 2 ∧ sn = s')) := by
          rcases HKS.out with ⟨rfl, rfl⟩ | ⟨rfl, rfl⟩ | ⟨rfl, rfl⟩
          ·exact ⟨s1, H1.out, .inr (.inl ⟨rfl, rfl⟩)⟩
          ·exact ⟨s', H2.out, .inr (.inr ⟨rfl, rfl⟩)⟩
          ·omega
         obtain ⟨sn, hsr, hks⟩ := hsr
         have HSR := Lib.hid hsr
         have HKS2 := Lib.hid hks
         clear hsr hks HKS
         have hk2 : (k : Int) < 2 := by omega
         go_wp2_with (first
          | ((with_reducible refine gate_builtin (b := .append) (xs := #[.tmp 69, .tmp 70]) rfl ?_); at_builtin; refine Kd.R_append_rows (Kd.int .i64) (Rr := (Kd.int .i64).K (wr.alloc (.cells #[] 3))) (w0 := w0) w0.heap.size rfl (.tmp 69) (.tmp 70) 26 3 (.int .i64 0) 8 rfl Try.underlying26 info3 rfl (by decide) (by omega) (.slice (some ⟨wr.heap.size, 0, none⟩) 0 0) ([] : List Int) y (some ad) x.length c1 (fun k => wr.heap.size ≤ k) (fun _ => False) rfl rfl (R_empty wr _ HS.out.bel.size) (Kd.C_alloc (HLEN.out ▸ (Kd.R_reads' HX.out).2.2) _) ?aK (fun _ hk => hk.elim) ?aF (below_alloc HS.out.bel _) ?aS ?aL ?_; (case aK => exact fun _ _ h => h); (case aF => intro q hq; have h1 : (wr.alloc (.cells #[] 3)).heap.size = wr.heap.size + 1 := Array.size_push _; omega); (case aS => have h1 : (wr.alloc (.cells #[] 3)).heap.size = wr.heap.size + 1 := Array.size_push _; have := HS.out.bel.size; omega); (case aL => simp; omega); intro v2 w2 ho hb hg hat; rw [List.nil_append] at ho; have HO2 := Lib.hid ho; have HB2 := Lib.hid (grown_empty hg); clear ho hb hg hat; obtain ⟨g, cap, hv2, _, _, _⟩ := Kd.R_form HO2.out (by have := HAT.out; omega); rw [← HLEN.out] at hv2; subst hv2; have hgg := HO2.out.1 g rfl; obtain ⟨z0, z1⟩ := Kd.R_celln 0 HO2.out (at_ : Int) (by omega) (by omega); rw [Int.toNat_natCast] at z0 z1; have hOP := OX.put HO2.out (at_ : Int) (k : Int); rw [Int.toNat_natCast] at hOP; have HOP := Lib.hid hOP; have HB3 := Lib.hid (below_set (v := .int .i64 (k : Int)) (j := at_) HB2.out hgg); have HS3 := Lib.hid (HS.out.below HB3.out); have HX3 := Lib.hid (HX.out.below HB3.out); have HK3 := Lib.hid (HK.out.below HB3.out); have e9 : (w2.setCell ⟨g, at_, none⟩ (.int .i64 (k : Int))).cell? ⟨sb, 0, none⟩ = some (.func (.func 33) #[] #[.pointer (some ⟨pb, 0, none⟩), .pointer (some ⟨lb, 0, none⟩), .pointer (some ⟨bb, 0, none⟩), .pointer (some ⟨sb, 0, none⟩)]) := (blk_cell HS3.out.fn 0).trans rfl; clear hOP)
          | (go_at_call 33; refine (call_ih IH.out HSR HS3 HOP HLEN hx).mono ?_; rintro e w4 ⟨rfl, hS4, hK4⟩; have HS4 := Lib.hid hS4; have HX4 := Lib.hid (HX3.out.kept HS3.out hK4 (fun q h1 h2 => by have h3 := Kd.R_lt HX.out q h1; have h4 := own_some h2; omega)); have HK4 := Lib.hid (HK3.out.then_ hK4 (fun q hq => by rcases hq with hq | hq; (have h4 := own_some hq; exact .inr (by have := HK.out.1; omega)); exact .inl (.inr hq))); clear hS4 hK4))
         go_roundw
         case rel => exact ⟨k + 1, sn, by go_num, HKS2, HS4, HX4, HK4⟩
         case measure => simp [intOf]; omega
        ·obtain ⟨rfl, rfl⟩ : k = 2 ∧ sk = s' := by
          rcases HKS.out with ⟨rfl, rfl⟩ | ⟨rfl, rfl⟩ | h2
          ·omega
          ·omega
          ·exact h2
         go_wp2
         refine bodyPost_end (results_none rfl _ _ _) rfl ?_
         exact ⟨rfl, HS.out, HK.out⟩
end
end Go.Proofs.Ytiigmklolapckaa.QAll
