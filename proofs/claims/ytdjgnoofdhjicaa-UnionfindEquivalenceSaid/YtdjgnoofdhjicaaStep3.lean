/- What the law's step does at a query. Condition: the object is what follows from at most 150 well-formed operations. -/
import Derived.Test.YtdjgnoofdhjicaaStep2
import Derived.Deep.RegionHeld3
namespace Go.Proofs.Ytdjgnoofdhjicaa.UF
open Go.RowKit Go.Proofs.YtdjgnoofdhjicaaW.PrintWords Go.Proofs.YtdjgnoofdhjicaaW.PrintLast Go.Proofs.YtdjgnoofdhjicaaW.PrintMore Go.Proofs.Ytdjgnoofdhjicaa.QAll
attribute [local go_sem] max2_int min2_int max_two min_two max_three min_three max_four min_four
set_option linter.unusedVariables false
set_option linter.unusedSimpArgs false

section
variable {w0 w : World} {g : Nat} {l : List S56} {A0 : Option Addr} {c0 : Nat}
theorem St.drew {v : Value} (h : St w0 w g l v) : St w0 w.drew g l v := ⟨h.bel.drew, h.uf, h.own, h.ok⟩
theorem rfind_st (h : Hid (St w0 w g l (.slice A0 l.length c0))) (hl : l.length ≤ 150) (hc : l.length ≤ c0) (x : Int) :
    Calls Try.prog 32 #[.slice A0 l.length c0, .int .i64 x] w fun e w' => e = .returned (.int .i64 (rfnd (lab l) x)) ∧ Below w.heap.size w w' ∧ St w0 w' g l (.slice A0 l.length c0) := by
  obtain ⟨A, c, hv, hc', hC⟩ := h.out.read
  injection hv with e1 e2 e3
  subst e1; subst e3
  exact (rfind_calls h.out.ok hl hc hC x).mono fun _ _ ⟨a, b⟩ => ⟨a, b, h.out.below b⟩
theorem find_st {v : Value} (h : Hid (St w0 w g l v)) (hl : l.length ≤ 150) (x : Int) :
    Calls Try.prog 13 #[.pointer (some ⟨g, 0, none⟩), .int .i64 x] w fun e w' => e = .returned (.int .i64 (rfnd (lab l) x)) ∧ w = w' := by
  have := find_calls h.out.uf (h.out.plen hl) h.out.well x
  rwa [h.out.inv.find x] at this
theorem rfnd_no {L : List Int} {x : Int} (h : ¬ 0 ≤ rfnd L x) (hl : ∀ i : Int, 0 ≤ i → i < L.length → 0 ≤ rd L i) : rfnd L x = -1 := by
  unfold rfnd at *
  split at h
  · rename_i e; exact absurd (hl x e.1 e.2) h
  · rename_i e; rw [if_neg e]
theorem rfind_st0 (h : Hid (St w0 w g l (.slice A0 l.length c0))) (hl : l.length ≤ 150) (hc : l.length ≤ c0) (x : Int) (hx : rfnd (lab l) x < 0) :
    Calls Try.prog 32 #[.slice A0 l.length c0, .int .i64 x] w fun e w' => e = .returned (.int .i64 (-1)) ∧ Below w.heap.size w w' ∧ St w0 w' g l (.slice A0 l.length c0) := by
  have := rfind_st h hl hc x
  rwa [rfnd_no (by omega) (fun i a b => (h.out.inv.lo i a b).1)] at this
theorem find_st0 {v : Value} (h : Hid (St w0 w g l v)) (hl : l.length ≤ 150) (x : Int) (hx : rfnd (lab l) x < 0) :
    Calls Try.prog 13 #[.pointer (some ⟨g, 0, none⟩), .int .i64 x] w fun e w' => e = .returned (.int .i64 (-1)) ∧ w = w' := by
  have := find_st h hl x
  rwa [rfnd_no (by omega) (fun i a b => (h.out.inv.lo i a b).1)] at this
/-- Whether a and b are in one set. -/
def sm (L : List Int) (a b : Int) : Bool := decide (0 ≤ rfnd L a) && (rfnd L a == rfnd L b)
theorem same_st {v : Value} (h : Hid (St w0 w g l v)) (hl : l.length ≤ 150) (a b : Int) :
    Calls Try.prog 12 #[.pointer (some ⟨g, 0, none⟩), .int .i64 a, .int .i64 b] w fun e w' => e = .returned (.bool (sm (lab l) a b)) ∧ w = w' := by
  have := same_calls h.out.uf (h.out.plen hl) h.out.well a b
  rw [h.out.inv.find a, h.out.inv.find b] at this
  have e : inB (par l) a = decide (0 ≤ rfnd (lab l) a) := by
    have hi := h.out.inv
    have hlen := hi.len
    by_cases ha : 0 ≤ a ∧ a < (par l).length
    · have := hi.lo a ha.1 (by omega)
      rw [inB_yes ha.1 ha.2]
      unfold rfnd
      rw [if_pos (by omega), decide_eq_true this.1]
    · rw [inB_no ha]
      unfold rfnd
      rw [if_neg (by omega)]; rfl
  rw [e] at this
  exact this
theorem same_st1 {v : Value} (h : Hid (St w0 w g l v)) (hl : l.length ≤ 150) (a b : Int) (hx : 0 ≤ rfnd (lab l) a) :
    Calls Try.prog 12 #[.pointer (some ⟨g, 0, none⟩), .int .i64 a, .int .i64 b] w fun e w' => e = .returned (.bool (rfnd (lab l) a == rfnd (lab l) b)) ∧ w = w' := by
  have := same_st h hl a b
  unfold sm at this
  rwa [decide_eq_true hx, Bool.true_and] at this
theorem same_st0 {v : Value} (h : Hid (St w0 w g l v)) (hl : l.length ≤ 150) (a b : Int) (hx : rfnd (lab l) a < 0) :
    Calls Try.prog 12 #[.pointer (some ⟨g, 0, none⟩), .int .i64 a, .int .i64 b] w fun e w' => e = .returned (.bool false) ∧ w = w' := by
  have := same_st h hl a b
  unfold sm at this
  rwa [decide_eq_false (show ¬ 0 ≤ rfnd (lab l) a by omega), Bool.false_and] at this
theorem members_st {v : Value} (h : Hid (St w0 w g l v)) (hl : l.length ≤ 150) (x : Int) :
    Calls Try.prog 20 #[.pointer (some ⟨g, 0, none⟩), .int .i64 x] w fun e w' => ∃ v1, e = .returned v1 ∧ Kd.R (Kd.int .i64) 3 w' w.heap.size (fun _ => True) v1 (rmem (lab l) x) ∧ Below w.heap.size w w' ∧ St w0 w' g l v := by
  have := members_calls h.out.uf (h.out.plen hl) h.out.well x
  rw [mem_eq h.out.inv x] at this
  exact this.mono fun _ _ ⟨v1, a, b, c⟩ => ⟨v1, a, b, c, h.out.below c⟩
theorem rmembers_st (h : Hid (St w0 w g l (.slice A0 l.length c0))) (hl : l.length ≤ 150) (hc : l.length ≤ c0) (x : Int) :
    Calls Try.prog 27 #[.slice A0 l.length c0, .int .i64 x] w fun e w' => ∃ v1, e = .returned v1 ∧ Kd.R (Kd.int .i64) 3 w' w.heap.size (fun _ => True) v1 (rmem (lab l) x) ∧ Below w.heap.size w w' ∧ St w0 w' g l (.slice A0 l.length c0) := by
  obtain ⟨A, c, hv, hc', hC⟩ := h.out.read
  injection hv with e1 e2 e3
  subst e1; subst e3
  exact (rmembers_calls h.out.ok hl hc hC x).mono fun _ _ ⟨v1, a, b, c⟩ => ⟨v1, a, b, c, h.out.below c⟩
theorem cell_kept {w w' : World} {a : Addr} {v : Value} (hb : Below w.heap.size w w') (h : w.cell? a = some v) : w'.cell? a = some v := pw_cell_below hb h

set_option maxHeartbeats 3200000 in
set_option maxRecDepth 100000 in
theorem step_query {v : Value} (hS : St w0 w g l v) (hl : l.length ≤ 150) (kind A B : Int) (k1 : ¬ kind = 1) (k2 : ¬ kind = 2) (k3 : ¬ kind = 3) :
    Calls Try.prog 21 #[.pointer (some ⟨g, 0, none⟩), v, .agg #[.int .i64 kind, .int .i64 A, .int .i64 B]] w (Ends w0 g l) := by
  obtain ⟨A0, c0, rfl, hc0, hC⟩ := hS.read
  have hb1 : Below w.heap.size w (w.alloc (.cells #[.int .i64 kind, .int .i64 A, .int .i64 B] 37)) := below_alloc (Below.refl _ _) _
  have H1 := Lib.hid (hS.below hb1)
  have H1d := Lib.hid (hS.below hb1).drew
  have e1 : (kind == 1) = false := by simpa using k1
  have e2 : (kind == 2) = false := by simpa using k2
  have e3 : (kind == 3) = false := by simpa using k3
  clear hS hC hb1 k1 k2 k3
  by_cases hx : 0 ≤ rfnd (lab l) A
  · go_enter Try.func21, Try.ntmps21
    go_wp2
    go_region_held3 (fun w' => w'.cell? ⟨w.heap.size, 1, none⟩ = some (.int .i64 A) ∧ w'.cell? ⟨w.heap.size, 2, none⟩ = some (.int .i64 B) ∧ Hid (St w0 w' g l (.slice A0 l.length c0)))
      (first | (refine ⟨?_, ?_, ?_⟩ <;> assumption) | go_keep)
      ((go_at_call 32; refine (rfind_st (by assumption) hl hc0 _).mono ?_; rintro e w1 ⟨rfl, hB, hS1⟩; have q1 : w1.cell? ⟨w.heap.size, 1, none⟩ = some (.int .i64 A) := cell_kept hB (by first | assumption | go_simp); have q2 : w1.cell? ⟨w.heap.size, 2, none⟩ = some (.int .i64 B) := cell_kept hB (by first | assumption | go_simp); have q3 := Lib.hid hS1; clear hB hS1))
    all_goals go_wp2
    have q3d := Lib.hid q3.out.drew
    go_region_held3 (fun w' => w'.cell? ⟨w.heap.size, 1, none⟩ = some (.int .i64 A) ∧ w'.cell? ⟨w.heap.size, 2, none⟩ = some (.int .i64 B) ∧ Hid (St w0 w' g l (.slice A0 l.length c0)))
      (first | (refine ⟨?_, ?_, ?_⟩ <;> assumption) | (refine ⟨?_, ?_, Lib.hid (St.drew (Hid.out (by assumption)))⟩ <;> go_simp) | go_keep)
      (first
        | (go_at_call 13; refine (find_st (by assumption) hl _).mono ?_; rintro e w1 ⟨rfl, rfl⟩)
        | (go_at_call 12; refine (same_st1 (by assumption) hl _ _ hx).mono ?_; rintro e w1 ⟨rfl, rfl⟩)
        | (go_at_call 32; refine (rfind_st (by assumption) hl hc0 _).mono ?_; rintro e w1 ⟨rfl, hB, hS1⟩; have q1 : w1.cell? ⟨w.heap.size, 1, none⟩ = some (.int .i64 A) := cell_kept hB (by first | assumption | go_simp); have q2 : w1.cell? ⟨w.heap.size, 2, none⟩ = some (.int .i64 B) := cell_kept hB (by first | assumption | go_simp); have q3 := Lib.hid hS1; clear hB hS1)
        | (go_at_call 20; refine (members_st (by assumption) hl _).mono ?_; rintro e w2 ⟨v2, rfl, hR, hB, hS1⟩; have q1 : w2.cell? ⟨w.heap.size, 1, none⟩ = some (.int .i64 A) := cell_kept hB (by first | assumption | go_simp); have q2 : w2.cell? ⟨w.heap.size, 2, none⟩ = some (.int .i64 B) := cell_kept hB (by first | assumption | go_simp); have q3 := Lib.hid hS1; have R2 := Lib.hid hR; obtain ⟨A2, c2, hv2⟩ := Kd.R_slice hR; subst hv2; clear hB hS1 hR)
        | (go_at_call 27; refine (rmembers_st (by assumption) hl hc0 _).mono ?_; rintro e w3 ⟨v3, rfl, hR, hB, hS1⟩; have q1 : w3.cell? ⟨w.heap.size, 1, none⟩ = some (.int .i64 A) := cell_kept hB (by first | assumption | go_simp); have q2 : w3.cell? ⟨w.heap.size, 2, none⟩ = some (.int .i64 B) := cell_kept hB (by first | assumption | go_simp); have q3 := Lib.hid hS1; have R2' := Lib.hid (Kd.R_below R2.out hB); have R3 := Lib.hid hR; obtain ⟨A3, c3, hv3⟩ := Kd.R_slice hR; subst hv3; clear hB hS1 hR R2)
        | (go_at_call 25; refine (rsame_calls (by have := rmem_length (lab l) A; have := lab_length_le l; omega) (Kd.R_reads' R2'.out).2.2 (Kd.R_reads' R2'.out).2.1 (Kd.R_reads' R3.out).2.2 (Kd.R_reads' R3.out).2.1).mono ?_; rintro e w4 ⟨rfl, hd⟩; have hB := hd.below; have hS1 := q3.out.below hB; have q1 : w4.cell? ⟨w.heap.size, 1, none⟩ = some (.int .i64 A) := cell_kept hB (by first | assumption | go_simp); have q2 : w4.cell? ⟨w.heap.size, 2, none⟩ = some (.int .i64 B) := cell_kept hB (by first | assumption | go_simp); have q4 := Lib.hid hS1; clear hB hS1 hd))
    all_goals go_wp2
    go_ret2
    exact ⟨_, rfl, q4.out⟩
  · have hx : rfnd (lab l) A < 0 := by omega
    go_enter Try.func21, Try.ntmps21
    go_wp2
    refine start_ (n := 17) (S := fun w' => w'.cell? ⟨w.heap.size, 1, none⟩ = some (.int .i64 A) ∧ w'.cell? ⟨w.heap.size, 2, none⟩ = some (.int .i64 B)) (ds := []) #[false, false, false, false, false, false, false, false, false, false, false, false, false, false, false, false, false] (by kernel_rfl) rfl rfl ⟨(by go_simp), (by go_simp)⟩ (fun hHeld => ?_)
    refine pure_ (i := 0) (N := some 85) (v := ?_) (a' := ?_) #[true, false, false, false, false, false, false, false, false, false, false, false, false, false, false, false, false] rfl rfl (by kernel_rfl) (fun _ _ _ h => h) (Or.inl ⟨by rfl, ?_⟩) ?_ ?_
    rotate_left
    · intro w'
      go_simp
      with_reducible rfl
    rotate_left
    · simp only [Act.put, List.setIfInBounds_toArray, List.set_cons_zero, List.set_cons_succ, i64_w, i32_w]
      rfl
    refine pure_ (i := 1) (N := some 86) (v := ?_) (a' := ?_) #[true, true, false, false, false, false, false, false, false, false, false, false, false, false, false, false, false] rfl rfl (by kernel_rfl) (fun _ _ _ h => h) (Or.inl ⟨by rfl, ?_⟩) ?_ ?_
    rotate_left
    · intro w'
      go_simp
      with_reducible rfl
    rotate_left
    · simp only [Act.put, List.setIfInBounds_toArray, List.set_cons_zero, List.set_cons_succ, i64_w, i32_w]
      rfl
    refine take_ (i := 2) (N := some 87) (v := ?_) (a' := ?_) #[true, true, true, false, false, false, false, false, false, false, false, false, false, false, false, false, false] rfl rfl (by kernel_rfl) (fun _ _ _ h => h) (Or.inl ⟨by rfl, ?_⟩) hHeld ?_ ?_
    rotate_left
    · rintro w' ⟨s0, s1⟩
      go_simp
      with_reducible rfl
    rotate_left
    · simp only [Act.put, List.setIfInBounds_toArray, List.set_cons_zero, List.set_cons_succ, i64_w, i32_w]
      rfl
    refine one_ (i := 3) (N := some 88) #[true, true, true, true, false, false, false, false, false, false, false, false, false, false, false, false, false] rfl rfl (by kernel_rfl) (by decide) (fun K hK => ?_)
    refine goes_ Try.func32 (by kernel_rfl) rfl #[.slice A0 l.length c0, .int .i64 A] (by rfl) rfl rfl (by simp only [List.map_toArray, List.map_cons, List.map_nil]; rfl) ?_
    with_reducible refine (rfind_st0 H1d hl hc0 A hx).mono ?_
    rintro e w1 ⟨rfl, hB, hS1⟩
    refine ⟨_, rfl, ?_⟩
    have q1 : w1.cell? ⟨w.heap.size, 1, none⟩ = some (.int .i64 A) := cell_kept hB hHeld.1
    have q2 : w1.cell? ⟨w.heap.size, 2, none⟩ = some (.int .i64 B) := cell_kept hB hHeld.2
    have q3 := Lib.hid hS1
    clear hB hS1
    refine hK.out _ _ ⟨q1, q2⟩ (fun hHeld => ?_)
    clear hK K
    refine norm_ (a' := ?_) ?_ ?_
    rotate_left
    · show Act.put _ (some 88) _ = _
      simp only [Act.put, List.setIfInBounds_toArray, List.set_cons_zero, List.set_cons_succ, i64_w, i32_w]
      rfl
    refine pure_ (i := 4) (N := some 89) (v := ?_) (a' := ?_) #[true, true, true, true, true, false, false, false, false, false, false, false, false, false, false, false, false] rfl rfl (by kernel_rfl) (fun _ _ _ h => h) (Or.inl ⟨by rfl, ?_⟩) ?_ ?_
    rotate_left
    · intro w'
      go_simp
      with_reducible rfl
    rotate_left
    · simp only [Act.put, List.setIfInBounds_toArray, List.set_cons_zero, List.set_cons_succ, i64_w, i32_w]
      rfl
    refine pure_ (i := 5) (N := some 90) (v := ?_) (a' := ?_) #[true, true, true, true, true, true, false, false, false, false, false, false, false, false, false, false, false] rfl rfl (by kernel_rfl) (fun _ _ _ h => h) (Or.inl ⟨by rfl, ?_⟩) ?_ ?_
    rotate_left
    · intro w'
      go_simp
      with_reducible rfl
    rotate_left
    · simp only [Act.put, List.setIfInBounds_toArray, List.set_cons_zero, List.set_cons_succ, i64_w, i32_w]
      rfl
    refine pure_ (i := 6) (N := some 91) (v := undef) (a' := ?_) #[true, true, true, true, true, true, true, false, false, false, false, false, false, false, false, false, false] rfl rfl (by kernel_rfl) (fun _ _ _ h => h) (Or.inr ⟨by rfl, rfl⟩) ?_ ?_
    rotate_left
    · simp only [Act.put, List.setIfInBounds_toArray, List.set_cons_zero, List.set_cons_succ, i64_w, i32_w]
      rfl
    refine pure_ (i := 7) (N := some 92) (v := undef) (a' := ?_) #[true, true, true, true, true, true, true, true, false, false, false, false, false, false, false, false, false] rfl rfl (by kernel_rfl) (fun _ _ _ h => h) (Or.inr ⟨by rfl, rfl⟩) ?_ ?_
    rotate_left
    · simp only [Act.put, List.setIfInBounds_toArray, List.set_cons_zero, List.set_cons_succ, i64_w, i32_w]
      rfl
    refine pure_ (i := 8) (N := some 93) (v := undef) (a' := ?_) #[true, true, true, true, true, true, true, true, true, false, false, false, false, false, false, false, false] rfl rfl (by kernel_rfl) (fun _ _ _ h => h) (Or.inr ⟨by rfl, rfl⟩) ?_ ?_
    rotate_left
    · simp only [Act.put, List.setIfInBounds_toArray, List.set_cons_zero, List.set_cons_succ, i64_w, i32_w]
      rfl
    refine pure_ (i := 9) (N := some 94) (v := undef) (a' := ?_) #[true, true, true, true, true, true, true, true, true, true, false, false, false, false, false, false, false] rfl rfl (by kernel_rfl) (fun _ _ _ h => h) (Or.inr ⟨by rfl, rfl⟩) ?_ ?_
    rotate_left
    · simp only [Act.put, List.setIfInBounds_toArray, List.set_cons_zero, List.set_cons_succ, i64_w, i32_w]
      rfl
    refine pure_ (i := 10) (N := some 95) (v := undef) (a' := ?_) #[true, true, true, true, true, true, true, true, true, true, true, false, false, false, false, false, false] rfl rfl (by kernel_rfl) (fun _ _ _ h => h) (Or.inr ⟨by rfl, rfl⟩) ?_ ?_
    rotate_left
    · simp only [Act.put, List.setIfInBounds_toArray, List.set_cons_zero, List.set_cons_succ, i64_w, i32_w]
      rfl
    refine pure_ (i := 11) (N := some 96) (v := undef) (a' := ?_) #[true, true, true, true, true, true, true, true, true, true, true, true, false, false, false, false, false] rfl rfl (by kernel_rfl) (fun _ _ _ h => h) (Or.inr ⟨by rfl, rfl⟩) ?_ ?_
    rotate_left
    · simp only [Act.put, List.setIfInBounds_toArray, List.set_cons_zero, List.set_cons_succ, i64_w, i32_w]
      rfl
    refine pure_ (i := 12) (N := some 97) (v := undef) (a' := ?_) #[true, true, true, true, true, true, true, true, true, true, true, true, true, false, false, false, false] rfl rfl (by kernel_rfl) (fun _ _ _ h => h) (Or.inr ⟨by rfl, rfl⟩) ?_ ?_
    rotate_left
    · simp only [Act.put, List.setIfInBounds_toArray, List.set_cons_zero, List.set_cons_succ, i64_w, i32_w]
      rfl
    refine pure_ (i := 13) (N := some 98) (v := undef) (a' := ?_) #[true, true, true, true, true, true, true, true, true, true, true, true, true, true, false, false, false] rfl rfl (by kernel_rfl) (fun _ _ _ h => h) (Or.inr ⟨by rfl, rfl⟩) ?_ ?_
    rotate_left
    · simp only [Act.put, List.setIfInBounds_toArray, List.set_cons_zero, List.set_cons_succ, i64_w, i32_w]
      rfl
    refine pure_ (i := 14) (N := some 99) (v := undef) (a' := ?_) #[true, true, true, true, true, true, true, true, true, true, true, true, true, true, true, false, false] rfl rfl (by kernel_rfl) (fun _ _ _ h => h) (Or.inr ⟨by rfl, rfl⟩) ?_ ?_
    rotate_left
    · simp only [Act.put, List.setIfInBounds_toArray, List.set_cons_zero, List.set_cons_succ, i64_w, i32_w]
      rfl
    refine pure_ (i := 15) (N := some 100) (v := ?_) (a' := ?_) #[true, true, true, true, true, true, true, true, true, true, true, true, true, true, true, true, false] rfl rfl (by kernel_rfl) (fun _ _ _ h => h) (Or.inl ⟨by rfl, ?_⟩) ?_ ?_
    rotate_left
    · intro w'
      go_simp
      with_reducible rfl
    rotate_left
    · simp only [Act.put, List.setIfInBounds_toArray, List.set_cons_zero, List.set_cons_succ, i64_w, i32_w]
      rfl
    refine pure_ (i := 16) (N := some 15) (v := ?_) (a' := ?_) #[true, true, true, true, true, true, true, true, true, true, true, true, true, true, true, true, true] rfl rfl (by kernel_rfl) (fun _ _ _ h => h) (Or.inl ⟨by rfl, ?_⟩) ?_ ?_
    rotate_left
    · intro w'
      go_simp
      with_reducible rfl
    rotate_left
    · simp only [Act.put, List.setIfInBounds_toArray, List.set_cons_zero, List.set_cons_succ, i64_w, i32_w]
      rfl
    refine done_ (by kernel_rfl) ?_
    clear H1 H1d
    go_wp2
    have q3d := Lib.hid q3.out.drew
    go_region_held3 (fun w' => w'.cell? ⟨w.heap.size, 1, none⟩ = some (.int .i64 A) ∧ w'.cell? ⟨w.heap.size, 2, none⟩ = some (.int .i64 B) ∧ Hid (St w0 w' g l (.slice A0 l.length c0)))
      (first | (refine ⟨?_, ?_, ?_⟩ <;> assumption) | (refine ⟨?_, ?_, Lib.hid (St.drew (Hid.out (by assumption)))⟩ <;> go_simp) | go_keep)
      (first
        | (go_at_call 13; refine (find_st0 (by assumption) hl _ hx).mono ?_; rintro e w1 ⟨rfl, rfl⟩)
        | (go_at_call 12; refine (same_st0 (by assumption) hl _ _ hx).mono ?_; rintro e w1 ⟨rfl, rfl⟩)
        | (go_at_call 32; refine (rfind_st0 (by assumption) hl hc0 _ hx).mono ?_; rintro e w1 ⟨rfl, hB, hS1⟩; have q1 : w1.cell? ⟨w.heap.size, 1, none⟩ = some (.int .i64 A) := cell_kept hB (by first | assumption | go_simp); have q2 : w1.cell? ⟨w.heap.size, 2, none⟩ = some (.int .i64 B) := cell_kept hB (by first | assumption | go_simp); have q3 := Lib.hid hS1; clear hB hS1)
        | (go_at_call 20; refine (members_st (by assumption) hl _).mono ?_; rintro e w2 ⟨v2, rfl, hR, hB, hS1⟩; have q1 : w2.cell? ⟨w.heap.size, 1, none⟩ = some (.int .i64 A) := cell_kept hB (by first | assumption | go_simp); have q2 : w2.cell? ⟨w.heap.size, 2, none⟩ = some (.int .i64 B) := cell_kept hB (by first | assumption | go_simp); have q3 := Lib.hid hS1; have R2 := Lib.hid hR; obtain ⟨A2, c2, hv2⟩ := Kd.R_slice hR; subst hv2; clear hB hS1 hR)
        | (go_at_call 27; refine (rmembers_st (by assumption) hl hc0 _).mono ?_; rintro e w3 ⟨v3, rfl, hR, hB, hS1⟩; have q1 : w3.cell? ⟨w.heap.size, 1, none⟩ = some (.int .i64 A) := cell_kept hB (by first | assumption | go_simp); have q2 : w3.cell? ⟨w.heap.size, 2, none⟩ = some (.int .i64 B) := cell_kept hB (by first | assumption | go_simp); have q3 := Lib.hid hS1; have R2' := Lib.hid (Kd.R_below R2.out hB); have R3 := Lib.hid hR; obtain ⟨A3, c3, hv3⟩ := Kd.R_slice hR; subst hv3; clear hB hS1 hR R2)
        | (go_at_call 25; refine (rsame_calls (by have := rmem_length (lab l) A; have := lab_length_le l; omega) (Kd.R_reads' R2'.out).2.2 (Kd.R_reads' R2'.out).2.1 (Kd.R_reads' R3.out).2.2 (Kd.R_reads' R3.out).2.1).mono ?_; rintro e w4 ⟨rfl, hd⟩; have hB := hd.below; have hS1 := q3.out.below hB; have q1 : w4.cell? ⟨w.heap.size, 1, none⟩ = some (.int .i64 A) := cell_kept hB (by first | assumption | go_simp); have q2 : w4.cell? ⟨w.heap.size, 2, none⟩ = some (.int .i64 B) := cell_kept hB (by first | assumption | go_simp); have q4 := Lib.hid hS1; clear hB hS1 hd))
    all_goals go_wp2
    go_ret2
    exact ⟨_, rfl, q4.out⟩
/-- A step of the law: it tells that all agrees. -/
theorem step_calls {v : Value} (hS : St w0 w g l v) (hl : l.length ≤ 150) (a : S37) :
    Calls Try.prog 21 #[.pointer (some ⟨g, 0, none⟩), v, .agg #[.int .i64 a.f0, .int .i64 a.f1, .int .i64 a.f2]] w (Ends w0 g (nxt l a)) := by
  obtain ⟨kind, A, B⟩ := a
  by_cases k1 : kind = 1
  · subst k1
    have e : nxt l ⟨1, A, B⟩ = l ++ [⟨true, 0, 0⟩] := by unfold nxt; rw [if_pos rfl]
    rw [e]; exact step_make hS hl A B
  by_cases k2 : kind = 2
  · subst k2; exact step_union hS hl A B
  by_cases k3 : kind = 3
  · subst k3; exact step_undo hS hl A B
  have e : nxt l ⟨kind, A, B⟩ = l := by unfold nxt; rw [if_neg k1, if_neg k2, if_neg k3]
  rw [e]; exact step_query hS hl kind A B k1 k2 k3
end
end Go.Proofs.Ytdjgnoofdhjicaa.UF
