/- Propagation of the solver, and what it keeps, in plain lists. Condition: a valid problem with few rows. -/
import Derived.Test.YtiigmklolapckaaPlainA
import Derived.Test.YtiigmklolapckaaPlainB
import Derived.Test.YtiigmklolapckaaQAllx3
import Derived.Test.YtiigmklolapckaaQAllx4
import Derived.Test.YtiigmklolapckaaExtProp
namespace Go.Proofs.Ytiigmklolapckaa.Plain
open Go.RowKit Go.Proofs.YtiigmklolapckaaW.PrintWords Go.Proofs.YtiigmklolapckaaW.PrintLast Go.Proofs.YtiigmklolapckaaW.PrintMore Go.Proofs.Ytiigmklolapckaa.QAll
set_option linter.unusedVariables false

/-! ### what a row can reach -/
/-- The greatest sum that a row can reach, as the machine adds. -/
def reachP : List S45 → List Int → Int → Int
  | [], _, a => a
  | c :: cs, x, a => reachP cs x (if rd x c.f0 = 1 then wrap64 (a + c.f1) else if rd x c.f0 = -1 then (if c.f1 > 0 then wrap64 (a + c.f1) else a) else a)
/-- The first variable of a row that has no choice, and its value. -/
def forceP (most least : Int) : List S45 → List Int → Option (Nat × Int)
  | [], _ => none
  | c :: cs, x => if rd x c.f0 = -1 then
      (if c.f1 > 0 ∧ wrap64 (most - c.f1) < least then some (c.f0.toNat, 1)
       else if c.f1 < 0 ∧ wrap64 (most + c.f1) < least then some (c.f0.toNat, 0) else forceP most least cs x)
    else forceP most least cs x
/-- A round over the rows: 0 if one cannot hold, 1 if a variable was given its value, 2 if nothing is to be done. -/
def stepP : List S43 → List Int → Nat × List Int
  | [], x => (2, x)
  | r :: rs, x => if reachP r.f0 x 0 < r.f1 then (0, x) else
      match forceP (reachP r.f0 x 0) r.f1 r.f0 x with
      | some q => (1, x.set q.1 q.2)
      | none => stepP rs x
def runP (p1 : List S43) : Nat → List Int → Bool × List Int
  | 0, x => (true, x)
  | n + 1, x => if (stepP p1 x).1 = 0 then (false, (stepP p1 x).2) else if (stepP p1 x).1 = 1 then runP p1 n (stepP p1 x).2 else (true, (stepP p1 x).2)
section
variable (L : List S45) (least : Int) (x : List Int) (hL : L.length ≤ 70) (hv : ∀ c ∈ L, 0 ≤ c.f0 ∧ c.f0 < x.length)
include hL hv
theorem reach_l0 : ∀ (m i k : Nat) (a : Int), i + m = L.length → m < k → ilp_reach.l0 k x a L (L.length : Int) (i : Int) = some (reachP (L.drop i) x a) := by
  intro m
  induction m with
  | zero =>
    intro i k a hi hk
    obtain ⟨k, rfl, hk⟩ := fuel hk
    simp only [ilp_reach.l0]
    rw [if_neg (by omega), List.drop_of_length_le (by omega)]
    rfl
  | succ m ih =>
    intro i k a hi hk
    obtain ⟨k, rfl, hk⟩ := fuel hk
    have hil : i < L.length := by omega
    have := hv _ (rd45_mem hil)
    simp only [ilp_reach.l0]
    rw [if_pos (by omega), if_pos (by omega), if_pos (by omega), if_pos this.1, if_pos this.2, wrap_nat i (by omega), drop45 hil]
    simp only [reachP]
    by_cases e1 : rd x (rd_T45 L (i : Int)).f0 = 1
    · rw [if_pos e1, if_pos e1]; exact ih (i + 1) k _ (by omega) (by omega)
    · rw [if_neg e1, if_neg e1]
      by_cases e2 : rd x (rd_T45 L (i : Int)).f0 = -1
      · rw [if_pos e2, if_pos e2]
        by_cases e3 : (rd_T45 L (i : Int)).f1 > 0
        · rw [if_pos e3, if_pos e3]; exact ih (i + 1) k _ (by omega) (by omega)
        · rw [if_neg e3, if_neg e3]; exact ih (i + 1) k _ (by omega) (by omega)
      · rw [if_neg e2, if_neg e2]; exact ih (i + 1) k _ (by omega) (by omega)
theorem reach_eq (k : Nat) (hk : 100 ≤ k) : ilp_reach.f k L least x = some (reachP L x 0) := by
  have := reach_l0 L x hL hv L.length 0 k 0 (by omega) (by omega)
  rw [show ((0 : Nat) : Int) = 0 from rfl, List.drop_zero] at this
  exact this
theorem force_l0 (most : Int) : ∀ (m i k : Nat), i + m = L.length → 2 * m < k → ilp_force.l0 k x most L (L.length : Int) (i : Int) L least = some (match forceP most least (L.drop i) x with | some q => (false, true, x.set q.1 q.2) | none => (true, true, x)) := by
  intro m
  induction m with
  | zero =>
    intro i k hi hk
    obtain ⟨k, rfl, hk⟩ := fuel hk
    simp only [ilp_force.l0]
    rw [if_neg (by omega), List.drop_of_length_le (by omega)]
    rfl
  | succ m ih =>
    intro i k hi hk
    obtain ⟨k, rfl, hk⟩ := fuel hk
    obtain ⟨k, rfl, hk⟩ := fuel (show 2 * m < k by omega)
    have hil : i < L.length := by omega
    have := hv _ (rd45_mem hil)
    have ih1 := ih (i + 1) k (by omega) (by omega)
    have ih2 := ih (i + 1) (k + 1) (by omega) (by omega)
    simp only [ilp_force.l0, ilp_force.j1]
    rw [if_pos (by omega), if_pos (by omega), if_pos (by omega), if_pos this.1, if_pos this.2, wrap_nat i (by omega), drop45 hil]
    simp only [forceP]
    by_cases e1 : rd x (rd_T45 L (i : Int)).f0 = -1
    · rw [if_pos e1, if_pos e1]
      by_cases e2 : (rd_T45 L (i : Int)).f1 > 0
      · rw [if_pos e2]
        by_cases e3 : wrap64 (most - (rd_T45 L (i : Int)).f1) < least
        · rw [if_pos (decide_eq_true e3), if_pos this.1, if_pos this.2, if_pos ⟨e2, e3⟩]
        · rw [if_neg (by simpa using e3), if_neg (by omega), if_neg (show ¬ ((rd_T45 L (i : Int)).f1 > 0 ∧ wrap64 (most - (rd_T45 L (i : Int)).f1) < least) from fun h => e3 h.2), if_neg (show ¬ ((rd_T45 L (i : Int)).f1 < 0 ∧ wrap64 (most + (rd_T45 L (i : Int)).f1) < least) from fun h => absurd h.1 (by omega))]; exact ih1
      · rw [if_neg e2, if_neg (show ¬ false = true by simp), if_neg (show ¬ ((rd_T45 L (i : Int)).f1 > 0 ∧ wrap64 (most - (rd_T45 L (i : Int)).f1) < least) from fun h => e2 h.1)]
        by_cases e4 : (rd_T45 L (i : Int)).f1 < 0
        · rw [if_pos e4]
          by_cases e3 : wrap64 (most + (rd_T45 L (i : Int)).f1) < least
          · rw [if_pos e3, if_pos this.1, if_pos this.2, if_pos ⟨e4, e3⟩]
          · rw [if_neg e3, if_neg (show ¬ ((rd_T45 L (i : Int)).f1 < 0 ∧ wrap64 (most + (rd_T45 L (i : Int)).f1) < least) from fun h => e3 h.2)]; exact ih1
        · rw [if_neg e4, if_neg (show ¬ ((rd_T45 L (i : Int)).f1 < 0 ∧ wrap64 (most + (rd_T45 L (i : Int)).f1) < least) from fun h => e4 h.1)]; exact ih1
    · rw [if_neg e1, if_neg e1]; exact ih2
theorem force_eq (k : Nat) (hk : 1000 ≤ k) : ilp_force.f k L least x = some (if reachP L x 0 < least then (true, false, x) else match forceP (reachP L x 0) least L x with | some q => (false, true, x.set q.1 q.2) | none => (true, true, x)) := by
  unfold ilp_force.f
  rw [reach_eq L least x hL hv k (by omega), Option.bind_some]
  by_cases e : reachP L x 0 < least
  · rw [if_pos e, if_pos e]
  · rw [if_neg e, if_neg e]
    have := force_l0 L least x hL hv (reachP L x 0) L.length 0 k (by omega) (by omega)
    rw [show ((0 : Nat) : Int) = 0 from rfl, List.drop_zero] at this
    exact this
end
section
variable (p0 : List Int) (p1 : List S43) (hF : Few 70 p0 p1) (hV : Valid p0 p1)
include hF hV
theorem propPass_eq : ∀ (l : List S43), (∀ r ∈ l, r ∈ p1) → ∀ x : List Int, x.length = p0.length → propPass l x = some (stepP l x)
  | [], _, x, hx => rfl
  | r :: rs, hl, x, hx => by
    have hr := hl r List.mem_cons_self
    simp only [propPass, stepP]
    rw [force_eq r.f0 r.f1 x (hF.coefs r hr) (fun c hc => by have := hV.var hr hc; omega) 50000 (by omega), Option.bind_some]
    by_cases e : reachP r.f0 x 0 < r.f1
    · rw [if_pos e, if_pos e]; rfl
    · rw [if_neg e, if_neg e]
      cases forceP (reachP r.f0 x 0) r.f1 r.f0 x with
      | some q => rfl
      | none => exact propPass_eq rs (fun r h => hl r (List.mem_cons_of_mem _ h)) x hx
end
/-! ### the number of open variables falls -/
def opens (x : List Int) : Nat := x.count (-1)
theorem rd_lt {x : List Int} {v : Int} (h0 : 0 ≤ v) (h1 : v < x.length) : x[v.toNat]? = some (rd x v) := by
  have : v.toNat < x.length := by omega
  simp [rd, List.getD_eq_getElem?_getD, List.getElem?_eq_getElem this]
theorem forceP_some {most least : Int} {x : List Int} {q : Nat × Int} : ∀ {L : List S45}, (∀ c ∈ L, 0 ≤ c.f0 ∧ c.f0 < x.length) → forceP most least L x = some q →
    ∃ c ∈ L, q.1 = c.f0.toNat ∧ rd x c.f0 = -1 ∧ (q.2 = 1 ∧ c.f1 > 0 ∧ wrap64 (most - c.f1) < least ∨ q.2 = 0 ∧ c.f1 < 0 ∧ wrap64 (most + c.f1) < least)
  | [], _, h => by simp [forceP] at h
  | c :: cs, hv, h => by
    simp only [forceP] at h
    by_cases e1 : rd x c.f0 = -1
    · rw [if_pos e1] at h
      by_cases e2 : c.f1 > 0 ∧ wrap64 (most - c.f1) < least
      · rw [if_pos e2] at h; cases h; exact ⟨c, List.mem_cons_self, rfl, e1, .inl ⟨rfl, e2⟩⟩
      · rw [if_neg e2] at h
        by_cases e3 : c.f1 < 0 ∧ wrap64 (most + c.f1) < least
        · rw [if_pos e3] at h; cases h; exact ⟨c, List.mem_cons_self, rfl, e1, .inr ⟨rfl, e3⟩⟩
        · rw [if_neg e3] at h
          obtain ⟨d, hd, h⟩ := forceP_some (fun c hc => hv c (List.mem_cons_of_mem _ hc)) h
          exact ⟨d, List.mem_cons_of_mem _ hd, h⟩
    · rw [if_neg e1] at h
      obtain ⟨d, hd, h⟩ := forceP_some (fun c hc => hv c (List.mem_cons_of_mem _ hc)) h
      exact ⟨d, List.mem_cons_of_mem _ hd, h⟩
/-- What a round that gives a variable its value does. -/
theorem stepP_one {x : List Int} : ∀ {l : List S43}, (∀ r ∈ l, ∀ c ∈ r.f0, 0 ≤ c.f0 ∧ c.f0 < x.length) → (stepP l x).1 = 1 →
    ∃ r ∈ l, ∃ q, forceP (reachP r.f0 x 0) r.f1 r.f0 x = some q ∧ (stepP l x).2 = x.set q.1 q.2
  | [], _, h => by simp [stepP] at h
  | r :: rs, hv, h => by
    simp only [stepP] at h ⊢
    by_cases e : reachP r.f0 x 0 < r.f1
    · rw [if_pos e] at h; cases h
    · rw [if_neg e] at h ⊢
      cases hf : forceP (reachP r.f0 x 0) r.f1 r.f0 x with
      | some q => exact ⟨r, List.mem_cons_self, q, hf, rfl⟩
      | none =>
        rw [hf] at h
        obtain ⟨d, hd, q, hq, h⟩ := stepP_one (fun r hr => hv r (List.mem_cons_of_mem _ hr)) h
        exact ⟨d, List.mem_cons_of_mem _ hd, q, hq, h⟩
theorem stepP_ne_one {x : List Int} : ∀ {l : List S43}, (stepP l x).1 ≠ 1 → (stepP l x).2 = x ∧ ((stepP l x).1 = 0 ∨ (stepP l x).1 = 2)
  | [], _ => ⟨rfl, .inr rfl⟩
  | r :: rs, h => by
    simp only [stepP] at h ⊢
    by_cases e : reachP r.f0 x 0 < r.f1
    · rw [if_pos e]; exact ⟨rfl, .inl rfl⟩
    · rw [if_neg e] at h ⊢
      cases hf : forceP (reachP r.f0 x 0) r.f1 r.f0 x with
      | some q => rw [hf] at h; exact absurd rfl h
      | none => rw [hf] at h; exact stepP_ne_one h
theorem opens_set {x : List Int} {v b : Int} (h0 : 0 ≤ v) (h1 : v < x.length) (h2 : rd x v = -1) (hb : b = 0 ∨ b = 1) : opens (x.set v.toNat b) + 1 = opens x := by
  have hl : v.toNat < x.length := by omega
  have e := rd_lt h0 h1
  rw [List.getElem?_eq_getElem hl, h2] at e
  have e : x[v.toNat] = -1 := Option.some.inj e
  have hp : 0 < x.count (-1) := by rw [List.count_pos_iff, ← e]; exact List.getElem_mem hl
  unfold opens
  rw [List.count_set hl, e]
  rcases hb with rfl | rfl <;> simp <;> omega
theorem stepP_opens {x : List Int} {l : List S43} (hv : ∀ r ∈ l, ∀ c ∈ r.f0, 0 ≤ c.f0 ∧ c.f0 < x.length) (h : (stepP l x).1 = 1) : opens (stepP l x).2 + 1 = opens x ∧ (stepP l x).2.length = x.length := by
  obtain ⟨r, hr, q, hq, e⟩ := stepP_one hv h
  obtain ⟨c, hc, e1, e2, e3⟩ := forceP_some (hv r hr) hq
  rw [e, e1]
  have := hv r hr c hc
  exact ⟨opens_set this.1 this.2 e2 (by rcases e3 with h | h <;> simp [h.1]), List.length_set⟩
section
variable (p0 : List Int) (p1 : List S43) (hF : Few 70 p0 p1) (hV : Valid p0 p1)
include hF hV
theorem propRun_eq : ∀ (n : Nat) (x : List Int), x.length = p0.length → opens x < n → propRun p1 n x = some (runP p1 n x)
  | 0, x, _, h => by omega
  | n + 1, x, hx, h => by
    simp only [propRun, runP]
    rw [propPass_eq p0 p1 hF hV p1 (fun r h => h) x hx, Option.bind_some]
    by_cases e0 : (stepP p1 x).1 = 0
    · rw [if_pos e0, if_pos e0]
    · rw [if_neg e0, if_neg e0]
      by_cases e1 : (stepP p1 x).1 = 1
      · rw [if_pos e1, if_pos e1]
        have := stepP_opens (fun r hr c hc => by have := hV.var hr hc; omega) e1
        exact propRun_eq n _ (by omega) (by omega)
      · rw [if_neg e1, if_neg e1]
omit hF hV in
theorem opens_le (x : List Int) : opens x ≤ x.length := List.count_le_length
theorem propagate_eq (x : List Int) (hx : x.length = p0.length) : ilp_propagate.f p0 p1 x = some (runP p1 1000 x) := by
  have := opens_le x
  have := hF.costs
  exact propRun_eq p0 p1 hF hV 1000 x hx (by omega)
end
/-! ### partial assignments -/
def rangeP : List Int → Bool
  | [] => true
  | v :: vs => decide (-1 ≤ v) && (decide (v ≤ 1) && rangeP vs)
def partP (p0 : List Int) (p1 : List S43) (x : List Int) : Bool := decide ((chk p0 p1).2 = 0) && (decide (x.length = p0.length) && rangeP x)
theorem part_l0 (x : List Int) (hx : x.length ≤ 1000) : ∀ (m i k : Nat), i + m = x.length → m < k → ilp_partial.l0 k x (x.length : Int) (i : Int) = some (rangeP (x.drop i)) := by
  intro m
  induction m with
  | zero =>
    intro i k hi hk
    obtain ⟨k, rfl, hk⟩ := fuel hk
    simp only [ilp_partial.l0]
    rw [if_neg (by omega), List.drop_of_length_le (by omega)]
    rfl
  | succ m ih =>
    intro i k hi hk
    obtain ⟨k, rfl, hk⟩ := fuel hk
    have hil : i < x.length := by omega
    simp only [ilp_partial.l0]
    rw [if_pos (by omega), if_pos (by omega), if_pos (by omega), wrap_nat i (by omega), dropI hil, ih (i + 1) k (by omega) (by omega)]
    simp only [rangeP]
    by_cases a : rd x (i : Int) < -1
    · rw [if_pos a, decide_eq_false (by omega)]; rfl
    · rw [if_neg a, decide_eq_true (show -1 ≤ rd x (i : Int) by omega)]
      by_cases b : rd x (i : Int) > 1
      · rw [if_pos b, decide_eq_false (by omega)]; rfl
      · rw [if_neg b, decide_eq_true (show rd x (i : Int) ≤ 1 by omega)]; rfl
section
variable (p0 : List Int) (p1 : List S43) (hF : Few 70 p0 p1) (x : List Int) (hx : x.length ≤ 1000)
include hF hx
theorem part_eq (k : Nat) (hk : 3000 ≤ k) : ilp_partial.f k p0 p1 x = some (partP p0 p1 x) := by
  unfold ilp_partial.f partP
  rw [check_eq p0 p1 hF k (by omega), Option.bind_some]
  obtain ⟨k, rfl, hk⟩ := fuel (show 2999 < k by omega)
  simp only [ilp_partial.j0]
  by_cases h : (chk p0 p1).2 = 0
  · rw [if_pos h, decide_eq_true h]
    by_cases e : x.length = p0.length
    · rw [if_neg (by simp [e]), decide_eq_true e]
      have := part_l0 x hx x.length 0 k (by omega) (by omega)
      rw [show ((0 : Nat) : Int) = 0 from rfl, List.drop_zero] at this
      rw [this]; simp
    · rw [if_pos (by simp; omega), decide_eq_false e]; simp
  · rw [if_neg h, decide_eq_false h]; simp
end
theorem partP_true {p0 : List Int} {p1 : List S43} {x : List Int} (h : partP p0 p1 x = true) : Valid p0 p1 ∧ x.length = p0.length ∧ rangeP x = true := by
  unfold partP at h
  simp only [Bool.and_eq_true, decide_eq_true_eq] at h
  exact ⟨chk_ok h.1, h.2.1, h.2.2⟩
/-! ### the sum of the costs -/
def boundP : List Int → List Int → Int → Int
  | c :: cs, v :: vs, a => boundP cs vs (if v = 1 then wrap64 (a + c) else a)
  | _, _, a => a
theorem bound_l0 (p0 : List Int) (p1 : List S43) (x : List Int) (hx : x.length = p0.length) (hl : x.length ≤ 1000) : ∀ (m i k : Nat) (a : Int), i + m = x.length → m < k → ilp_bound.l0 k a x (x.length : Int) (i : Int) p0 p1 = some (boundP (p0.drop i) (x.drop i) a) := by
  intro m
  induction m with
  | zero =>
    intro i k a hi hk
    obtain ⟨k, rfl, hk⟩ := fuel hk
    simp only [ilp_bound.l0]
    rw [if_neg (by omega), List.drop_of_length_le (l := x) (by omega), List.drop_of_length_le (l := p0) (by omega)]
    rfl
  | succ m ih =>
    intro i k a hi hk
    obtain ⟨k, rfl, hk⟩ := fuel hk
    have hil : i < x.length := by omega
    simp only [ilp_bound.l0]
    rw [if_pos (by omega), if_pos (by omega), if_pos (by omega), wrap_nat i (by omega), dropI hil, dropI (L := p0) (j := i) (by omega)]
    simp only [boundP]
    by_cases e : rd x (i : Int) = 1
    · rw [if_pos e, if_pos e, if_pos (by omega)]; exact ih (i + 1) k _ (by omega) (by omega)
    · rw [if_neg e, if_neg e]; exact ih (i + 1) k _ (by omega) (by omega)
theorem bound_eq (p0 : List Int) (p1 : List S43) (x : List Int) (hx : x.length = p0.length) (hl : x.length ≤ 1000) (k : Nat) (hk : 2000 ≤ k) : ilp_bound.f k p0 p1 x = some (boundP p0 x 0) := by
  have := bound_l0 p0 p1 x hx hl x.length 0 k 0 (by omega) (by omega)
  rw [show ((0 : Nat) : Int) = 0 from rfl, List.drop_zero, List.drop_zero] at this
  exact this
theorem Bound_eq (p0 : List Int) (p1 : List S43) (hF : Few 70 p0 p1) (x : List Int) (hl : x.length ≤ 1000) (k : Nat) (hk : 20000 ≤ k) : ilp_Bound.f k p0 p1 x = some (if partP p0 p1 x then boundP p0 x 0 else 0) := by
  unfold ilp_Bound.f
  rw [part_eq p0 p1 hF x hl k (by omega), Option.bind_some]
  by_cases h : partP p0 p1 x = true
  · rw [if_pos h, if_pos h, bound_eq p0 p1 x (partP_true h).2.1 hl k (by omega)]; rfl
  · rw [if_neg h, if_neg h]
/-! ### Propagate -/
theorem Prop_eq (p0 : List Int) (p1 : List S43) (hF : Few 70 p0 p1) (x : List Int) (hl : x.length ≤ 1000) (k : Nat) (hk : 20000 ≤ k) : ilp_Propagate.f k p0 p1 x = some (if partP p0 p1 x then ((runP p1 1000 x).2, (runP p1 1000 x).1) else ([], false)) := by
  unfold ilp_Propagate.f
  rw [part_eq p0 p1 hF x hl k (by omega), Option.bind_some]
  by_cases h : partP p0 p1 x = true
  · rw [if_pos h, if_pos h, Option.bind_some, if_pos (by simp; omega), List.nil_append, propagate_eq p0 p1 hF (partP_true h).1 x (partP_true h).2.1, Option.bind_some]
  · rw [if_neg h, if_neg h]
theorem runP_len (p0 : List Int) (p1 : List S43) (hV : Valid p0 p1) : ∀ (n : Nat) (x : List Int), x.length = p0.length → (runP p1 n x).2.length = p0.length
  | 0, x, h => h
  | n + 1, x, h => by
    have h2 : (stepP p1 x).2.length = p0.length := by
      by_cases e1 : (stepP p1 x).1 = 1
      · have := stepP_opens (fun r hr c hc => by have := hV.var hr hc; omega) e1; omega
      · rw [(stepP_ne_one e1).1]; exact h
    simp only [runP]
    by_cases e0 : (stepP p1 x).1 = 0
    · rw [if_pos e0]; exact h2
    · rw [if_neg e0]
      by_cases e1 : (stepP p1 x).1 = 1
      · rw [if_pos e1]; exact runP_len p0 p1 hV n _ h2
      · rw [if_neg e1]; exact h2
theorem wrap_id {a : Int} (h0 : -9223372036854775808 ≤ a) (h1 : a ≤ 9223372036854775807) : wrap64 a = a := by unfold wrap64; omega
theorem rd_set {x : List Int} {i v b : Int} (hi : 0 ≤ i) (hi2 : i < x.length) (hv : 0 ≤ v) : rd (x.set i.toNat b) v = if v = i then b else rd x v := by
  unfold rd
  rw [List.getD_eq_getElem?_getD, List.getD_eq_getElem?_getD, List.getElem?_set]
  by_cases e : v = i
  · subst e; rw [if_pos rfl, if_pos rfl, if_pos (by omega)]; rfl
  · rw [if_neg (by omega), if_neg e]
/-! ### sums without wrapping -/
def sumZ : List S45 → List Bool → Int
  | [], _ => 0
  | c :: cs, s => (if rdOf false s c.f0 = true then c.f1 else 0) + sumZ cs s
def reachZ : List S45 → List Int → Int
  | [], _ => 0
  | c :: cs, x => (if rd x c.f0 = 1 then c.f1 else if rd x c.f0 = -1 then (if c.f1 > 0 then c.f1 else 0) else 0) + reachZ cs x
theorem sumB_eq (s : List Bool) (L : List S45) (a : Int) (hc : ∀ c ∈ L, -1048576 ≤ c.f1 ∧ c.f1 ≤ 1048576) (h0 : -1152921504606846976 + L.length * 1048576 ≤ a) (h1 : a ≤ 1152921504606846976 - L.length * 1048576) : sumB L s a = a + sumZ L s := by
  induction L generalizing a with
  | nil => simp [sumB, sumZ]
  | cons c cs ih =>
    have hb := hc c List.mem_cons_self
    have hl : ((c :: cs).length : Int) = cs.length + 1 := by simp
    rw [hl] at h0 h1
    have ih := fun a h0 h1 => ih a (fun c h => hc c (List.mem_cons_of_mem _ h)) h0 h1
    simp only [sumB, sumZ]
    by_cases e : rdOf false s c.f0 = true
    · rw [if_pos e, if_pos e, wrap_id (by omega) (by omega), ih _ (by omega) (by omega)]; omega
    · rw [if_neg e, if_neg e, ih _ (by omega) (by omega)]; omega
theorem reachP_eq (x : List Int) (L : List S45) (a : Int) (hc : ∀ c ∈ L, -1048576 ≤ c.f1 ∧ c.f1 ≤ 1048576) (h0 : -1152921504606846976 + L.length * 1048576 ≤ a) (h1 : a ≤ 1152921504606846976 - L.length * 1048576) : reachP L x a = a + reachZ L x := by
  induction L generalizing a with
  | nil => simp [reachP, reachZ]
  | cons c cs ih =>
    have hb := hc c List.mem_cons_self
    have hl : ((c :: cs).length : Int) = cs.length + 1 := by simp
    rw [hl] at h0 h1
    have ih := fun a h0 h1 => ih a (fun c h => hc c (List.mem_cons_of_mem _ h)) h0 h1
    simp only [reachP, reachZ]
    by_cases e : rd x c.f0 = 1
    · rw [if_pos e, if_pos e, wrap_id (by omega) (by omega), ih _ (by omega) (by omega)]; omega
    · rw [if_neg e, if_neg e]
      by_cases e2 : rd x c.f0 = -1
      · rw [if_pos e2, if_pos e2]
        by_cases e3 : c.f1 > 0
        · rw [if_pos e3, if_pos e3, wrap_id (by omega) (by omega), ih _ (by omega) (by omega)]; omega
        · rw [if_neg e3, if_neg e3, ih _ (by omega) (by omega)]; omega
      · rw [if_neg e2, if_neg e2, ih _ (by omega) (by omega)]; omega
theorem reachZ_range (x : List Int) : ∀ (L : List S45), (∀ c ∈ L, -1048576 ≤ c.f1 ∧ c.f1 ≤ 1048576) → -(L.length * 1048576 : Int) ≤ reachZ L x ∧ reachZ L x ≤ L.length * 1048576
  | [], _ => by simp [reachZ]
  | c :: cs, hc => by
    have hb := hc c List.mem_cons_self
    have hl : ((c :: cs).length : Int) = cs.length + 1 := by simp
    have ih := reachZ_range x cs (fun c h => hc c (List.mem_cons_of_mem _ h))
    rw [hl]
    simp only [reachZ]
    repeat' split
    all_goals omega
/-! ### agreement -/
/-- s agrees with x. -/
def Agr (x : List Int) (s : List Bool) : Prop := ∀ v : Int, 0 ≤ v → v < x.length → (rd x v = 1 → rdOf false s v = true) ∧ (rd x v = 0 → rdOf false s v = false)
/-- x tells 0, 1 or nothing of each variable. -/
def Tri (x : List Int) : Prop := ∀ v : Int, 0 ≤ v → v < x.length → rd x v = -1 ∨ rd x v = 0 ∨ rd x v = 1
theorem rangeP_iff : ∀ x : List Int, rangeP x = true ↔ ∀ v ∈ x, -1 ≤ v ∧ v ≤ 1
  | [] => by simp [rangeP]
  | v :: vs => by simp [rangeP, rangeP_iff vs, and_assoc]
theorem rd_mem {x : List Int} {v : Int} (h0 : 0 ≤ v) (h1 : v < x.length) : rd x v ∈ x := by
  have := rd_lt h0 h1
  exact List.mem_of_getElem? this
theorem tri_of {x : List Int} (h : rangeP x = true) : Tri x := fun v h0 h1 => by have := (rangeP_iff x).1 h _ (rd_mem h0 h1); omega
theorem sum_le {x : List Int} {s : List Bool} (ha : Agr x s) (ht : Tri x) : ∀ {L : List S45}, (∀ c ∈ L, 0 ≤ c.f0 ∧ c.f0 < x.length) → sumZ L s ≤ reachZ L x
  | [], _ => Int.le_refl _
  | c :: cs, hc => by
    have h := hc c List.mem_cons_self
    have ih := sum_le ha ht (fun c h => hc c (List.mem_cons_of_mem _ h))
    have ha := ha c.f0 h.1 h.2
    simp only [sumZ, reachZ]
    rcases ht c.f0 h.1 h.2 with e | e | e
    · rw [if_neg (by omega : ¬ rd x c.f0 = 1), if_pos e]
      repeat' split
      all_goals omega
    · rw [if_neg (by omega : ¬ rd x c.f0 = 1), if_neg (by omega : ¬ rd x c.f0 = -1), ha.2 e]; simp; exact ih
    · rw [if_pos e, ha.1 e]; simp; exact ih
theorem sum_force {x : List Int} {s : List Bool} (ha : Agr x s) (ht : Tri x) {d : S45} (ho : rd x d.f0 = -1) : ∀ {L : List S45}, (∀ c ∈ L, 0 ≤ c.f0 ∧ c.f0 < x.length) → d ∈ L →
    (d.f1 > 0 → rdOf false s d.f0 = false → sumZ L s ≤ reachZ L x - d.f1) ∧ (d.f1 < 0 → rdOf false s d.f0 = true → sumZ L s ≤ reachZ L x + d.f1)
  | [], _, h => by cases h
  | c :: cs, hc, h => by
    rcases List.mem_cons.1 h with rfl | h
    · have := sum_le ha ht (fun c h => hc c (List.mem_cons_of_mem _ h))
      simp only [sumZ, reachZ]
      rw [if_neg (by omega : ¬ rd x d.f0 = 1), if_pos ho]
      constructor
      · intro h1 h2; rw [h2, if_pos h1, if_neg (by simp)]; omega
      · intro h1 h2; rw [h2, if_neg (by omega : ¬ d.f1 > 0), if_pos rfl]; omega
    · have ih := sum_force ha ht ho (fun c h => hc c (List.mem_cons_of_mem _ h)) h
      have h1 := sum_le ha ht (L := [c]) (fun e he => by rw [List.mem_singleton] at he; subst he; exact hc _ List.mem_cons_self)
      simp only [sumZ, reachZ] at h1 ⊢
      constructor
      · intro h2 h3; have := ih.1 h2 h3; omega
      · intro h2 h3; have := ih.2 h2 h3; omega
/-! ### a round keeps the solutions -/
/-- s is a solution. -/
def Sol (p1 : List S43) (s : List Bool) : Prop := ∀ r ∈ p1, r.f1 ≤ sumZ r.f0 s
section
variable {p0 : List Int} {p1 : List S43} (hV : Valid p0 p1)
include hV
theorem Valid.len64 {r : S43} (hr : r ∈ p1) : r.f0.length ≤ 64 := (row_ok (hV.rows r hr)).2.2.2
theorem Valid.least {r : S43} (hr : r ∈ p1) : -1099511627776 ≤ r.f1 ∧ r.f1 ≤ 1099511627776 := by
  have := (row_ok (hV.rows r hr)).2.1; omega
theorem reach_plain {r : S43} (hr : r ∈ p1) (x : List Int) : reachP r.f0 x 0 = reachZ r.f0 x := by
  have := hV.len64 hr
  rw [reachP_eq x r.f0 0 (fun c hc => by have := hV.var hr hc; omega) (by omega) (by omega)]; omega
theorem reach_small {r : S43} (hr : r ∈ p1) (x : List Int) : -67108864 ≤ reachZ r.f0 x ∧ reachZ r.f0 x ≤ 67108864 := by
  have := hV.len64 hr
  have := reachZ_range x r.f0 (fun c hc => by have := hV.var hr hc; omega)
  omega
theorem holds_plain {r : S43} (hr : r ∈ p1) (s : List Bool) : holdsB r s = decide (r.f1 ≤ sumZ r.f0 s) := by
  have := hV.len64 hr
  unfold holdsB
  rw [sumB_eq s r.f0 0 (fun c hc => by have := hV.var hr hc; omega) (by omega) (by omega), Int.zero_add]
theorem feas_plain (s : List Bool) (hc : (chk p0 p1).2 = 0) : feas p0 p1 s = true ↔ s.length = p0.length ∧ Sol p1 s := by
  unfold feas
  simp only [hc, decide_true, Bool.true_and, Bool.and_eq_true, decide_eq_true_eq, List.all_eq_true]
  constructor
  · rintro ⟨h1, h2⟩; exact ⟨h1, fun r hr => by have := h2 r hr; rw [holds_plain hV hr] at this; simpa using this⟩
  · rintro ⟨h1, h2⟩; exact ⟨h1, fun r hr => by rw [holds_plain hV hr]; simpa using h2 r hr⟩
omit hV in
theorem set_agr {x : List Int} {s : List Bool} (ha : Agr x s) {v b : Int} (h0 : 0 ≤ v) (h1 : v < x.length) (hb : b = 1 ∧ rdOf false s v = true ∨ b = 0 ∧ rdOf false s v = false) : Agr (x.set v.toNat b) s := by
  intro w hw0 hw1
  rw [List.length_set] at hw1
  rw [rd_set h0 h1 hw0]
  by_cases e : w = v
  · subst e; rw [if_pos rfl]
    rcases hb with ⟨rfl, h⟩ | ⟨rfl, h⟩
    · exact ⟨fun _ => h, fun h => by omega⟩
    · exact ⟨fun h => by omega, fun _ => h⟩
  · rw [if_neg e]; exact ha w hw0 hw1
omit hV in
theorem set_tri {x : List Int} (ht : Tri x) {v b : Int} (h0 : 0 ≤ v) (h1 : v < x.length) (hb : b = 0 ∨ b = 1) : Tri (x.set v.toNat b) := by
  intro w hw0 hw1
  rw [List.length_set] at hw1
  rw [rd_set h0 h1 hw0]
  by_cases e : w = v
  · rw [if_pos e]; omega
  · rw [if_neg e]; exact ht w hw0 hw1
/-- One round. -/
theorem step_sound {x : List Int} {s : List Bool} (hx : x.length = p0.length) (ht : Tri x) (hs : Sol p1 s) (ha : Agr x s) : (stepP p1 x).1 ≠ 0 ∧ Agr (stepP p1 x).2 s := by
  have h0 : ∀ l : List S43, (∀ r ∈ l, r ∈ p1) → (stepP l x).1 ≠ 0 := by
    intro l
    induction l with
    | nil => intro _; simp [stepP]
    | cons r rs ih =>
      intro hl
      have hr := hl r List.mem_cons_self
      simp only [stepP]
      rw [reach_plain hV hr]
      have h1 := sum_le ha ht (L := r.f0) (fun c hc => by have := hV.var hr hc; omega)
      have h2 := hs r hr
      rw [if_neg (by omega)]
      cases forceP (reachZ r.f0 x) r.f1 r.f0 x with
      | some q => simp
      | none => exact ih (fun r h => hl r (List.mem_cons_of_mem _ h))
  refine ⟨h0 p1 (fun _ h => h), ?_⟩
  have hv : ∀ r ∈ p1, ∀ c ∈ r.f0, 0 ≤ c.f0 ∧ c.f0 < x.length := fun r hr c hc => by have := hV.var hr hc; omega
  by_cases e : (stepP p1 x).1 = 1
  · obtain ⟨r, hr, q, hq, e2⟩ := stepP_one hv e
    obtain ⟨c, hc, e3, e4, e5⟩ := forceP_some (hv r hr) hq
    have hcv := hV.var hr hc
    have hrs := reach_small hV hr x
    have hl := hs r hr
    have hf := sum_force ha ht e4 (hv r hr) hc
    rw [e2, e3]
    rw [reach_plain hV hr] at e5
    refine set_agr ha (hv r hr c hc).1 (hv r hr c hc).2 ?_
    rcases e5 with ⟨h1, h2, h3⟩ | ⟨h1, h2, h3⟩
    · rw [wrap_id (by omega) (by omega)] at h3
      cases hb : rdOf false s c.f0
      · have := hf.1 h2 hb; omega
      · exact .inl ⟨h1, rfl⟩
    · rw [wrap_id (by omega) (by omega)] at h3
      cases hb : rdOf false s c.f0
      · exact .inr ⟨h1, rfl⟩
      · have := hf.2 h2 hb; omega
  · rw [(stepP_ne_one e).1]; exact ha
/-- What a round leaves: the length, the range, and what was told before. -/
theorem step_keeps {x : List Int} (hx : x.length = p0.length) (ht : Tri x) : (stepP p1 x).2.length = p0.length ∧ Tri (stepP p1 x).2 ∧ ∀ v : Int, 0 ≤ v → v < x.length → rd x v ≠ -1 → rd (stepP p1 x).2 v = rd x v := by
  have hv : ∀ r ∈ p1, ∀ c ∈ r.f0, 0 ≤ c.f0 ∧ c.f0 < x.length := fun r hr c hc => by have := hV.var hr hc; omega
  by_cases e : (stepP p1 x).1 = 1
  · obtain ⟨r, hr, q, hq, e2⟩ := stepP_one hv e
    obtain ⟨c, hc, e3, e4, e5⟩ := forceP_some (hv r hr) hq
    have hcv := hv r hr c hc
    rw [e2, e3]
    refine ⟨by rw [List.length_set]; exact hx, set_tri ht hcv.1 hcv.2 (by rcases e5 with h | h <;> simp [h.1]), fun v h0 h1 h2 => ?_⟩
    rw [rd_set hcv.1 hcv.2 h0, if_neg (by rintro rfl; exact h2 e4)]
  · rw [(stepP_ne_one e).1]; exact ⟨hx, ht, fun _ _ _ _ => rfl⟩
theorem run_sound {s : List Bool} (hs : Sol p1 s) : ∀ (n : Nat) {x : List Int}, x.length = p0.length → Tri x → Agr x s → (runP p1 n x).1 = true ∧ Agr (runP p1 n x).2 s
  | 0, x, _, _, ha => ⟨rfl, ha⟩
  | n + 1, x, hx, ht, ha => by
    have h := step_sound hV hx ht hs ha
    have hk := step_keeps hV hx ht
    simp only [runP]
    rw [if_neg h.1]
    by_cases e : (stepP p1 x).1 = 1
    · rw [if_pos e]; exact run_sound hs n hk.1 hk.2.1 h.2
    · rw [if_neg e]; exact ⟨rfl, h.2⟩
theorem run_keeps : ∀ (n : Nat) {x : List Int}, x.length = p0.length → Tri x → (runP p1 n x).2.length = p0.length ∧ Tri (runP p1 n x).2 ∧ ∀ v : Int, 0 ≤ v → v < x.length → rd x v ≠ -1 → rd (runP p1 n x).2 v = rd x v
  | 0, x, hx, ht => ⟨hx, ht, fun _ _ _ _ => rfl⟩
  | n + 1, x, hx, ht => by
    have hk := step_keeps hV hx ht
    simp only [runP]
    by_cases e0 : (stepP p1 x).1 = 0
    · rw [if_pos e0]; exact hk
    · rw [if_neg e0]
      by_cases e : (stepP p1 x).1 = 1
      · rw [if_pos e]
        have ih := run_keeps n hk.1 hk.2.1
        refine ⟨ih.1, ih.2.1, fun v h0 h1 h2 => ?_⟩
        have h3 := hk.2.2 v h0 h1 h2
        rw [ih.2.2 v h0 (by omega) (by omega), h3]
      · rw [if_neg e]; exact hk
end

end Go.Proofs.Ytiigmklolapckaa.Plain
