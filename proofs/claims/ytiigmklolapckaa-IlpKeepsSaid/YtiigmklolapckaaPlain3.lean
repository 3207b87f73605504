/- Propagation of the solver and of its reference, in plain lists. Condition: a valid problem with few rows. -/
import Derived.Test.YtiigmklolapckaaPlainA
import Derived.Test.YtiigmklolapckaaQAllx14
namespace Go.Proofs.Ytiigmklolapckaa.Plain
open Go.RowKit Go.Proofs.YtiigmklolapckaaW.PrintWords Go.Proofs.YtiigmklolapckaaW.PrintLast Go.Proofs.YtiigmklolapckaaW.PrintMore Go.Proofs.Ytiigmklolapckaa.QAll
set_option linter.unusedVariables false

/-! ### what a row can reach -/
/-- The greatest sum that a row can reach, as the machine adds. -/
def reachP : List S45 → List Int → Int → Int
  | [], _, a => a
  | c :: cs, x, a => reachP cs x (if rd x c.f0 = 1 then wrap64 (a + c.f1) else if rd x c.f0 = -1 then (if c.f1 > 0 then wrap64 (a + c.f1) else a) else a)
/-- The first variable of a row that has no choice, and its value. -/
def forceP (most least : Int) : List S45 → List Int → Option (Nat × Int)
  | [], _ => none
  | c :: cs, x => if rd x c.f0 = -1 then
      (if c.f1 > 0 ∧ wrap64 (most - c.f1) < least then some (c.f0.toNat, 1)
       else if c.f1 < 0 ∧ wrap64 (most + c.f1) < least then some (c.f0.toNat, 0) else forceP most least cs x)
    else forceP most least cs x
/-- A round over the rows: 0 if one cannot hold, 1 if a variable was given its value, 2 if nothing is to be done. -/
def stepP : List S43 → List Int → Nat × List Int
  | [], x => (2, x)
  | r :: rs, x => if reachP r.f0 x 0 < r.f1 then (0, x) else
      match forceP (reachP r.f0 x 0) r.f1 r.f0 x with
      | some q => (1, x.set q.1 q.2)
      | none => stepP rs x
/-- A round as the reference tells it. -/
def nxP (q : Nat × List Int) : List Int × Bool × Bool := (q.2, decide (q.1 = 1), decide (q.1 ≠ 0))
def runP (p1 : List S43) : Nat → List Int → Bool × List Int
  | 0, x => (true, x)
  | n + 1, x => if (stepP p1 x).1 = 0 then (false, (stepP p1 x).2) else if (stepP p1 x).1 = 1 then runP p1 n (stepP p1 x).2 else (true, (stepP p1 x).2)
section
variable (L : List S45) (least : Int) (x : List Int) (hL : L.length ≤ 70) (hv : ∀ c ∈ L, 0 ≤ c.f0 ∧ c.f0 < x.length)
include hL hv
theorem reach_l0 : ∀ (m i k : Nat) (a : Int), i + m = L.length → m < k → ilp_reach.l0 k x a L (L.length : Int) (i : Int) = some (reachP (L.drop i) x a) := by
  intro m
  induction m with
  | zero =>
    intro i k a hi hk
    obtain ⟨k, rfl, hk⟩ := fuel hk
    simp only [ilp_reach.l0]
    rw [if_neg (by omega), List.drop_of_length_le (by omega)]
    rfl
  | succ m ih =>
    intro i k a hi hk
    obtain ⟨k, rfl, hk⟩ := fuel hk
    have hil : i < L.length := by omega
    have := hv _ (rd45_mem hil)
    simp only [ilp_reach.l0]
    rw [if_pos (by omega), if_pos (by omega), if_pos (by omega), if_pos this.1, if_pos this.2, wrap_nat i (by omega), drop45 hil]
    simp only [reachP]
    by_cases e1 : rd x (rd_T45 L (i : Int)).f0 = 1
    · rw [if_pos e1, if_pos e1]; exact ih (i + 1) k _ (by omega) (by omega)
    · rw [if_neg e1, if_neg e1]
      by_cases e2 : rd x (rd_T45 L (i : Int)).f0 = -1
      · rw [if_pos e2, if_pos e2]
        by_cases e3 : (rd_T45 L (i : Int)).f1 > 0
        · rw [if_pos e3, if_pos e3]; exact ih (i + 1) k _ (by omega) (by omega)
        · rw [if_neg e3, if_neg e3]; exact ih (i + 1) k _ (by omega) (by omega)
      · rw [if_neg e2, if_neg e2]; exact ih (i + 1) k _ (by omega) (by omega)
theorem reach_eq (k : Nat) (hk : 100 ≤ k) : ilp_reach.f k L least x = some (reachP L x 0) := by
  have := reach_l0 L x hL hv L.length 0 k 0 (by omega) (by omega)
  rw [show ((0 : Nat) : Int) = 0 from rfl, List.drop_zero] at this
  exact this
theorem rreach_l0 : ∀ (m i k : Nat) (a : Int), i + m = L.length → m < k → saturateref41_reach.l0 k x a (i : Int) L least = some (reachP (L.drop i) x a) := by
  intro m
  induction m with
  | zero =>
    intro i k a hi hk
    obtain ⟨k, rfl, hk⟩ := fuel hk
    simp only [saturateref41_reach.l0]
    rw [if_neg (by omega), List.drop_of_length_le (by omega)]
    rfl
  | succ m ih =>
    intro i k a hi hk
    obtain ⟨k, rfl, hk⟩ := fuel hk
    have hil : i < L.length := by omega
    have := hv _ (rd45_mem hil)
    simp only [saturateref41_reach.l0]
    rw [if_pos (by omega), if_pos (by omega), if_pos this.1, if_pos this.2, wrap_nat i (by omega), drop45 hil]
    simp only [reachP]
    by_cases e1 : rd x (rd_T45 L (i : Int)).f0 = 1
    · rw [if_pos e1, if_pos e1]; exact ih (i + 1) k _ (by omega) (by omega)
    · rw [if_neg e1, if_neg e1]
      by_cases e2 : rd x (rd_T45 L (i : Int)).f0 = -1
      · rw [if_pos e2, if_pos e2]
        by_cases e3 : (rd_T45 L (i : Int)).f1 > 0
        · rw [if_pos e3, if_pos e3]; exact ih (i + 1) k _ (by omega) (by omega)
        · rw [if_neg e3, if_neg e3]; exact ih (i + 1) k _ (by omega) (by omega)
      · rw [if_neg e2, if_neg e2]; exact ih (i + 1) k _ (by omega) (by omega)
theorem rreach_eq (k : Nat) (hk : 100 ≤ k) : saturateref41_reach.f k L least x = some (reachP L x 0) := by
  have := rreach_l0 L least x hL hv L.length 0 k 0 (by omega) (by omega)
  rw [show ((0 : Nat) : Int) = 0 from rfl, List.drop_zero] at this
  exact this
theorem force_l0 (most : Int) : ∀ (m i k : Nat), i + m = L.length → 2 * m < k → ilp_force.l0 k x most L (L.length : Int) (i : Int) L least = some (match forceP most least (L.drop i) x with | some q => (false, true, x.set q.1 q.2) | none => (true, true, x)) := by
  intro m
  induction m with
  | zero =>
    intro i k hi hk
    obtain ⟨k, rfl, hk⟩ := fuel hk
    simp only [ilp_force.l0]
    rw [if_neg (by omega), List.drop_of_length_le (by omega)]
    rfl
  | succ m ih =>
    intro i k hi hk
    obtain ⟨k, rfl, hk⟩ := fuel hk
    obtain ⟨k, rfl, hk⟩ := fuel (show 2 * m < k by omega)
    have hil : i < L.length := by omega
    have := hv _ (rd45_mem hil)
    have ih1 := ih (i + 1) k (by omega) (by omega)
    have ih2 := ih (i + 1) (k + 1) (by omega) (by omega)
    simp only [ilp_force.l0, ilp_force.j1]
    rw [if_pos (by omega), if_pos (by omega), if_pos (by omega), if_pos this.1, if_pos this.2, wrap_nat i (by omega), drop45 hil]
    simp only [forceP]
    by_cases e1 : rd x (rd_T45 L (i : Int)).f0 = -1
    · rw [if_pos e1, if_pos e1]
      by_cases e2 : (rd_T45 L (i : Int)).f1 > 0
      · rw [if_pos e2]
        by_cases e3 : wrap64 (most - (rd_T45 L (i : Int)).f1) < least
        · rw [if_pos (decide_eq_true e3), if_pos this.1, if_pos this.2, if_pos ⟨e2, e3⟩]
        · rw [if_neg (by simpa using e3), if_neg (by omega), if_neg (show ¬ ((rd_T45 L (i : Int)).f1 > 0 ∧ wrap64 (most - (rd_T45 L (i : Int)).f1) < least) from fun h => e3 h.2), if_neg (show ¬ ((rd_T45 L (i : Int)).f1 < 0 ∧ wrap64 (most + (rd_T45 L (i : Int)).f1) < least) from fun h => absurd h.1 (by omega))]; exact ih1
      · rw [if_neg e2, if_neg (show ¬ false = true by simp), if_neg (show ¬ ((rd_T45 L (i : Int)).f1 > 0 ∧ wrap64 (most - (rd_T45 L (i : Int)).f1) < least) from fun h => e2 h.1)]
        by_cases e4 : (rd_T45 L (i : Int)).f1 < 0
        · rw [if_pos e4]
          by_cases e3 : wrap64 (most + (rd_T45 L (i : Int)).f1) < least
          · rw [if_pos e3, if_pos this.1, if_pos this.2, if_pos ⟨e4, e3⟩]
          · rw [if_neg e3, if_neg (show ¬ ((rd_T45 L (i : Int)).f1 < 0 ∧ wrap64 (most + (rd_T45 L (i : Int)).f1) < least) from fun h => e3 h.2)]; exact ih1
        · rw [if_neg e4, if_neg (show ¬ ((rd_T45 L (i : Int)).f1 < 0 ∧ wrap64 (most + (rd_T45 L (i : Int)).f1) < least) from fun h => e4 h.1)]; exact ih1
    · rw [if_neg e1, if_neg e1]; exact ih2
theorem force_eq (k : Nat) (hk : 1000 ≤ k) : ilp_force.f k L least x = some (if reachP L x 0 < least then (true, false, x) else match forceP (reachP L x 0) least L x with | some q => (false, true, x.set q.1 q.2) | none => (true, true, x)) := by
  unfold ilp_force.f
  rw [reach_eq L least x hL hv k (by omega), Option.bind_some]
  by_cases e : reachP L x 0 < least
  · rw [if_pos e, if_pos e]
  · rw [if_neg e, if_neg e]
    have := force_l0 L least x hL hv (reachP L x 0) L.length 0 k (by omega) (by omega)
    rw [show ((0 : Nat) : Int) = 0 from rfl, List.drop_zero] at this
    exact this
theorem next_l1 (hx : x.length ≤ 100) (most : Int) (p0 : List Int) (p1 : List S43) (i0 : Nat) (hi0 : i0 ≤ 100) (K0 : Nat) (R : List Int × Bool × Bool)
    (hR : ∀ k, K0 ≤ k → saturateref41_next.l0 k x ((i0 + 1 : Nat) : Int) p0 p1 = some R) :
    ∀ (m i k : Nat), i + m = L.length → K0 + 4 * m < k → saturateref41_next.l1 k x (i0 : Int) most (i : Int) p0 p1 L least = some (match forceP most least (L.drop i) x with | some q => (x.set q.1 q.2, true, true) | none => R) := by
  intro m
  induction m with
  | zero =>
    intro i k hi hk
    obtain ⟨k, rfl, hk⟩ := fuel hk
    simp only [saturateref41_next.l1]
    rw [if_neg (by omega), List.drop_of_length_le (by omega), wrap_nat i0 (by omega), hR k (by omega)]
    rfl
  | succ m ih =>
    intro i k hi hk
    obtain ⟨k, rfl, hk⟩ := fuel hk
    obtain ⟨k, rfl, hk⟩ := fuel (show K0 + 4 * m + 2 < k by omega)
    obtain ⟨k, rfl, hk⟩ := fuel (show K0 + 4 * m + 1 < k by omega)
    obtain ⟨k, rfl, hk⟩ := fuel (show K0 + 4 * m < k by omega)
    have hil : i < L.length := by omega
    have := hv _ (rd45_mem hil)
    have hlen : ([] : List Int).length + x.length < 17592186044416 := by simp; omega
    have ih1 := ih (i + 1) k (by omega) (by omega)
    have ih2 := ih (i + 1) (k + 1 + 1 + 1) (by omega) (by omega)
    simp only [saturateref41_next.l1, saturateref41_next.j2, saturateref41_next.j3, saturateref41_next.j4]
    rw [if_pos (by omega), if_pos (by omega), if_pos this.1, if_pos this.2, wrap_nat i (by omega), drop45 hil]
    simp only [forceP]
    by_cases e1 : rd x (rd_T45 L (i : Int)).f0 = -1
    · rw [if_pos e1, if_pos e1]
      by_cases e2 : (rd_T45 L (i : Int)).f1 > 0
      · rw [if_pos e2]
        by_cases e3 : wrap64 (most - (rd_T45 L (i : Int)).f1) < least
        · rw [if_pos (decide_eq_true e3), if_neg (by omega), if_neg (by simp), if_pos (by omega), if_pos hlen, Option.bind_some, if_pos this.1, if_pos (by simpa using this.2), if_pos ⟨e2, e3⟩]
          rfl
        · rw [if_neg (by simpa using e3), if_neg (by omega), if_neg (by simp), if_neg (by omega), if_neg (show ¬ ((rd_T45 L (i : Int)).f1 > 0 ∧ wrap64 (most - (rd_T45 L (i : Int)).f1) < least) from fun h => e3 h.2), if_neg (show ¬ ((rd_T45 L (i : Int)).f1 < 0 ∧ wrap64 (most + (rd_T45 L (i : Int)).f1) < least) from fun h => absurd h.1 (by omega))]; exact ih1
      · rw [if_neg e2, if_neg (show ¬ false = true by simp), if_neg (show ¬ ((rd_T45 L (i : Int)).f1 > 0 ∧ wrap64 (most - (rd_T45 L (i : Int)).f1) < least) from fun h => e2 h.1)]
        by_cases e4 : (rd_T45 L (i : Int)).f1 < 0
        · rw [if_pos e4]
          by_cases e3 : wrap64 (most + (rd_T45 L (i : Int)).f1) < least
          · rw [if_pos (decide_eq_true e3), if_pos (by omega), if_pos hlen, Option.bind_some, if_pos this.1, if_pos (by simpa using this.2), if_pos ⟨e4, e3⟩]
            rfl
          · rw [if_neg (by simpa using e3), if_neg (by omega), if_neg (show ¬ ((rd_T45 L (i : Int)).f1 < 0 ∧ wrap64 (most + (rd_T45 L (i : Int)).f1) < least) from fun h => e3 h.2)]; exact ih1
        · rw [if_neg e4, if_neg (show ¬ false = true by simp), if_neg (by omega), if_neg (show ¬ ((rd_T45 L (i : Int)).f1 < 0 ∧ wrap64 (most + (rd_T45 L (i : Int)).f1) < least) from fun h => e4 h.1)]; exact ih1
    · rw [if_neg e1, if_neg e1]; exact ih2
end
section
variable (p0 : List Int) (p1 : List S43) (hF : Few 70 p0 p1) (hV : Valid p0 p1)
include hF hV
theorem propPass_eq : ∀ (l : List S43), (∀ r ∈ l, r ∈ p1) → ∀ x : List Int, x.length = p0.length → propPass l x = some (stepP l x)
  | [], _, x, hx => rfl
  | r :: rs, hl, x, hx => by
    have hr := hl r List.mem_cons_self
    simp only [propPass, stepP]
    rw [force_eq r.f0 r.f1 x (hF.coefs r hr) (fun c hc => by have := hV.var hr hc; omega) 50000 (by omega), Option.bind_some]
    by_cases e : reachP r.f0 x 0 < r.f1
    · rw [if_pos e, if_pos e]; rfl
    · rw [if_neg e, if_neg e]
      cases forceP (reachP r.f0 x 0) r.f1 r.f0 x with
      | some q => rfl
      | none => exact propPass_eq rs (fun r h => hl r (List.mem_cons_of_mem _ h)) x hx
set_option maxRecDepth 100000 in
theorem next_l0 (x : List Int) (hx : x.length = p0.length) : ∀ (m i k : Nat), i + m = p1.length → m * 300 < k → saturateref41_next.l0 k x (i : Int) p0 p1 = some (nxP (stepP (p1.drop i) x)) := by
  have hr := hF.rows
  have hc := hF.costs
  intro m
  induction m with
  | zero =>
    intro i k hi hk
    obtain ⟨k, rfl, hk⟩ := fuel hk
    simp only [saturateref41_next.l0]
    rw [if_neg (by omega), List.drop_of_length_le (by omega)]
    rfl
  | succ m ih =>
    intro i k hi hk
    obtain ⟨k, rfl, hk⟩ := fuel hk
    have hil : i < p1.length := by omega
    have hm := rd43_mem hil
    have hcf := hF.coefs _ hm
    have hv : ∀ c ∈ (rd_T43 p1 (i : Int)).f0, 0 ≤ c.f0 ∧ c.f0 < x.length := fun c hc => by have := hV.var hm hc; omega
    simp only [saturateref41_next.l0]
    rw [if_pos (by omega), if_pos (by omega), rreach_eq _ _ x hcf hv k (by omega), Option.bind_some, drop43 hil]
    simp only [stepP]
    by_cases e : reachP (rd_T43 p1 (i : Int)).f0 x 0 < (rd_T43 p1 (i : Int)).f1
    · rw [if_pos e, if_pos e]; rfl
    · rw [if_neg e, if_neg e]
      have h1 := next_l1 (rd_T43 p1 (i : Int)).f0 (rd_T43 p1 (i : Int)).f1 x hcf hv (by omega) (reachP (rd_T43 p1 (i : Int)).f0 x 0) p0 p1 i (by omega) (m * 300 + 1) _ (fun k hk => ih (i + 1) k (by omega) (by omega)) _ 0 k (Nat.zero_add _) (by omega)
      rw [show ((0 : Nat) : Int) = 0 from rfl, List.drop_zero] at h1
      rw [h1]
      cases forceP (reachP (rd_T43 p1 (i : Int)).f0 x 0) (rd_T43 p1 (i : Int)).f1 (rd_T43 p1 (i : Int)).f0 x <;> rfl
theorem next_eq (x : List Int) (hx : x.length = p0.length) : saturateref41_next.f 50000 p0 p1 x = some (nxP (stepP p1 x)) := by
  have hr := hF.rows
  have := next_l0 p0 p1 hF hV x hx p1.length 0 50000 (by omega) (by omega)
  rw [show ((0 : Nat) : Int) = 0 from rfl, List.drop_zero] at this
  exact this
end
/-! ### the number of open variables falls -/
def opens (x : List Int) : Nat := x.count (-1)
theorem rd_lt {x : List Int} {v : Int} (h0 : 0 ≤ v) (h1 : v < x.length) : x[v.toNat]? = some (rd x v) := by
  have : v.toNat < x.length := by omega
  simp [rd, List.getD_eq_getElem?_getD, List.getElem?_eq_getElem this]
theorem forceP_some {most least : Int} {x : List Int} {q : Nat × Int} : ∀ {L : List S45}, (∀ c ∈ L, 0 ≤ c.f0 ∧ c.f0 < x.length) → forceP most least L x = some q →
    ∃ c ∈ L, q.1 = c.f0.toNat ∧ rd x c.f0 = -1 ∧ (q.2 = 1 ∧ c.f1 > 0 ∧ wrap64 (most - c.f1) < least ∨ q.2 = 0 ∧ c.f1 < 0 ∧ wrap64 (most + c.f1) < least)
  | [], _, h => by simp [forceP] at h
  | c :: cs, hv, h => by
    simp only [forceP] at h
    by_cases e1 : rd x c.f0 = -1
    · rw [if_pos e1] at h
      by_cases e2 : c.f1 > 0 ∧ wrap64 (most - c.f1) < least
      · rw [if_pos e2] at h; cases h; exact ⟨c, List.mem_cons_self, rfl, e1, .inl ⟨rfl, e2⟩⟩
      · rw [if_neg e2] at h
        by_cases e3 : c.f1 < 0 ∧ wrap64 (most + c.f1) < least
        · rw [if_pos e3] at h; cases h; exact ⟨c, List.mem_cons_self, rfl, e1, .inr ⟨rfl, e3⟩⟩
        · rw [if_neg e3] at h
          obtain ⟨d, hd, h⟩ := forceP_some (fun c hc => hv c (List.mem_cons_of_mem _ hc)) h
          exact ⟨d, List.mem_cons_of_mem _ hd, h⟩
    · rw [if_neg e1] at h
      obtain ⟨d, hd, h⟩ := forceP_some (fun c hc => hv c (List.mem_cons_of_mem _ hc)) h
      exact ⟨d, List.mem_cons_of_mem _ hd, h⟩
/-- What a round that gives a variable its value does. -/
theorem stepP_one {x : List Int} : ∀ {l : List S43}, (∀ r ∈ l, ∀ c ∈ r.f0, 0 ≤ c.f0 ∧ c.f0 < x.length) → (stepP l x).1 = 1 →
    ∃ r ∈ l, ∃ q, forceP (reachP r.f0 x 0) r.f1 r.f0 x = some q ∧ (stepP l x).2 = x.set q.1 q.2
  | [], _, h => by simp [stepP] at h
  | r :: rs, hv, h => by
    simp only [stepP] at h ⊢
    by_cases e : reachP r.f0 x 0 < r.f1
    · rw [if_pos e] at h; cases h
    · rw [if_neg e] at h ⊢
      cases hf : forceP (reachP r.f0 x 0) r.f1 r.f0 x with
      | some q => exact ⟨r, List.mem_cons_self, q, hf, rfl⟩
      | none =>
        rw [hf] at h
        obtain ⟨d, hd, q, hq, h⟩ := stepP_one (fun r hr => hv r (List.mem_cons_of_mem _ hr)) h
        exact ⟨d, List.mem_cons_of_mem _ hd, q, hq, h⟩
theorem stepP_ne_one {x : List Int} : ∀ {l : List S43}, (stepP l x).1 ≠ 1 → (stepP l x).2 = x ∧ ((stepP l x).1 = 0 ∨ (stepP l x).1 = 2)
  | [], _ => ⟨rfl, .inr rfl⟩
  | r :: rs, h => by
    simp only [stepP] at h ⊢
    by_cases e : reachP r.f0 x 0 < r.f1
    · rw [if_pos e]; exact ⟨rfl, .inl rfl⟩
    · rw [if_neg e] at h ⊢
      cases hf : forceP (reachP r.f0 x 0) r.f1 r.f0 x with
      | some q => rw [hf] at h; exact absurd rfl h
      | none => rw [hf] at h; exact stepP_ne_one h
theorem opens_set {x : List Int} {v b : Int} (h0 : 0 ≤ v) (h1 : v < x.length) (h2 : rd x v = -1) (hb : b = 0 ∨ b = 1) : opens (x.set v.toNat b) + 1 = opens x := by
  have hl : v.toNat < x.length := by omega
  have e := rd_lt h0 h1
  rw [List.getElem?_eq_getElem hl, h2] at e
  have e : x[v.toNat] = -1 := Option.some.inj e
  have hp : 0 < x.count (-1) := by rw [List.count_pos_iff, ← e]; exact List.getElem_mem hl
  unfold opens
  rw [List.count_set hl, e]
  rcases hb with rfl | rfl <;> simp <;> omega
theorem stepP_opens {x : List Int} {l : List S43} (hv : ∀ r ∈ l, ∀ c ∈ r.f0, 0 ≤ c.f0 ∧ c.f0 < x.length) (h : (stepP l x).1 = 1) : opens (stepP l x).2 + 1 = opens x ∧ (stepP l x).2.length = x.length := by
  obtain ⟨r, hr, q, hq, e⟩ := stepP_one hv h
  obtain ⟨c, hc, e1, e2, e3⟩ := forceP_some (hv r hr) hq
  rw [e, e1]
  have := hv r hr c hc
  exact ⟨opens_set this.1 this.2 e2 (by rcases e3 with h | h <;> simp [h.1]), List.length_set⟩
section
variable (p0 : List Int) (p1 : List S43) (hF : Few 70 p0 p1) (hV : Valid p0 p1)
include hF hV
theorem propRun_eq : ∀ (n : Nat) (x : List Int), x.length = p0.length → opens x < n → propRun p1 n x = some (runP p1 n x)
  | 0, x, _, h => by omega
  | n + 1, x, hx, h => by
    simp only [propRun, runP]
    rw [propPass_eq p0 p1 hF hV p1 (fun r h => h) x hx, Option.bind_some]
    by_cases e0 : (stepP p1 x).1 = 0
    · rw [if_pos e0, if_pos e0]
    · rw [if_neg e0, if_neg e0]
      by_cases e1 : (stepP p1 x).1 = 1
      · rw [if_pos e1, if_pos e1]
        have := stepP_opens (fun r hr c hc => by have := hV.var hr hc; omega) e1
        exact propRun_eq n _ (by omega) (by omega)
      · rw [if_neg e1, if_neg e1]
theorem refRun_eq : ∀ (n : Nat) (x : List Int), x.length = p0.length → opens x < n → refRun p0 p1 n x = some ((runP p1 n x).2, (runP p1 n x).1)
  | 0, x, _, h => by omega
  | n + 1, x, hx, h => by
    simp only [refRun, runP]
    rw [next_eq p0 p1 hF hV x hx, Option.bind_some]
    by_cases e0 : (stepP p1 x).1 = 0
    · rw [if_pos e0]; simp [nxP, e0]
    · rw [if_neg e0]
      by_cases e1 : (stepP p1 x).1 = 1
      · rw [if_pos e1]
        have := stepP_opens (fun r hr c hc => by have := hV.var hr hc; omega) e1
        simp only [nxP, e1]
        exact refRun_eq n _ (by omega) (by omega)
      · rw [if_neg e1]; simp [nxP, e0, e1]
omit hF hV in
theorem opens_le (x : List Int) : opens x ≤ x.length := List.count_le_length
theorem propagate_eq (x : List Int) (hx : x.length = p0.length) : ilp_propagate.f p0 p1 x = some (runP p1 1000 x) := by
  have := opens_le x
  have := hF.costs
  exact propRun_eq p0 p1 hF hV 1000 x hx (by omega)
end
/-! ### partial assignments -/
def rangeP : List Int → Bool
  | [] => true
  | v :: vs => decide (-1 ≤ v) && (decide (v ≤ 1) && rangeP vs)
def partP (p0 : List Int) (p1 : List S43) (x : List Int) : Bool := decide ((chk p0 p1).2 = 0) && (decide (x.length = p0.length) && rangeP x)
theorem part_l0 (x : List Int) (hx : x.length ≤ 1000) : ∀ (m i k : Nat), i + m = x.length → m < k → ilp_partial.l0 k x (x.length : Int) (i : Int) = some (rangeP (x.drop i)) := by
  intro m
  induction m with
  | zero =>
    intro i k hi hk
    obtain ⟨k, rfl, hk⟩ := fuel hk
    simp only [ilp_partial.l0]
    rw [if_neg (by omega), List.drop_of_length_le (by omega)]
    rfl
  | succ m ih =>
    intro i k hi hk
    obtain ⟨k, rfl, hk⟩ := fuel hk
    have hil : i < x.length := by omega
    simp only [ilp_partial.l0]
    rw [if_pos (by omega), if_pos (by omega), if_pos (by omega), wrap_nat i (by omega), dropI hil, ih (i + 1) k (by omega) (by omega)]
    simp only [rangeP]
    by_cases a : rd x (i : Int) < -1
    · rw [if_pos a, decide_eq_false (by omega)]; rfl
    · rw [if_neg a, decide_eq_true (show -1 ≤ rd x (i : Int) by omega)]
      by_cases b : rd x (i : Int) > 1
      · rw [if_pos b, decide_eq_false (by omega)]; rfl
      · rw [if_neg b, decide_eq_true (show rd x (i : Int) ≤ 1 by omega)]; rfl
theorem rpart_l0 (x : List Int) (hx : x.length ≤ 1000) : ∀ (m i k : Nat), i + m = x.length → m < k → saturateref41_partial.l0 k x (i : Int) = some (rangeP (x.drop i)) := by
  intro m
  induction m with
  | zero =>
    intro i k hi hk
    obtain ⟨k, rfl, hk⟩ := fuel hk
    simp only [saturateref41_partial.l0]
    rw [if_neg (by omega), List.drop_of_length_le (by omega)]
    rfl
  | succ m ih =>
    intro i k hi hk
    obtain ⟨k, rfl, hk⟩ := fuel hk
    have hil : i < x.length := by omega
    simp only [saturateref41_partial.l0]
    rw [if_pos (by omega), if_pos (by omega), wrap_nat i (by omega), dropI hil, ih (i + 1) k (by omega) (by omega)]
    simp only [rangeP]
    by_cases a : rd x (i : Int) < -1
    · rw [if_pos a, decide_eq_false (by omega)]; rfl
    · rw [if_neg a, decide_eq_true (show -1 ≤ rd x (i : Int) by omega)]
      by_cases b : rd x (i : Int) > 1
      · rw [if_pos b, decide_eq_false (by omega)]; rfl
      · rw [if_neg b, decide_eq_true (show rd x (i : Int) ≤ 1 by omega)]; rfl
section
variable (p0 : List Int) (p1 : List S43) (hF : Few 70 p0 p1) (x : List Int) (hx : x.length ≤ 1000)
include hF hx
theorem part_eq (k : Nat) (hk : 3000 ≤ k) : ilp_partial.f k p0 p1 x = some (partP p0 p1 x) := by
  unfold ilp_partial.f partP
  rw [check_eq p0 p1 hF k (by omega), Option.bind_some]
  obtain ⟨k, rfl, hk⟩ := fuel (show 2999 < k by omega)
  simp only [ilp_partial.j0]
  by_cases h : (chk p0 p1).2 = 0
  · rw [if_pos h, decide_eq_true h]
    by_cases e : x.length = p0.length
    · rw [if_neg (by simp [e]), decide_eq_true e]
      have := part_l0 x hx x.length 0 k (by omega) (by omega)
      rw [show ((0 : Nat) : Int) = 0 from rfl, List.drop_zero] at this
      rw [this]; simp
    · rw [if_pos (by simp; omega), decide_eq_false e]; simp
  · rw [if_neg h, decide_eq_false h]; simp
theorem rpart_eq (k : Nat) (hk : 9000 ≤ k) : saturateref41_partial.f k p0 p1 x = some (partP p0 p1 x) := by
  unfold saturateref41_partial.f partP
  rw [rcheck_eq p0 p1 hF k (by omega), Option.bind_some]
  obtain ⟨k, rfl, hk⟩ := fuel (show 8999 < k by omega)
  simp only [saturateref41_partial.j0]
  by_cases h : (chk p0 p1).2 = 0
  · rw [if_pos h, decide_eq_true h]
    by_cases e : x.length = p0.length
    · rw [if_neg (by simp [e]), decide_eq_true e]
      have := rpart_l0 x hx x.length 0 k (by omega) (by omega)
      rw [show ((0 : Nat) : Int) = 0 from rfl, List.drop_zero] at this
      rw [this]; simp
    · rw [if_pos (by simp; omega), decide_eq_false e]; simp
  · rw [if_neg h, decide_eq_false h]; simp
end
theorem partP_true {p0 : List Int} {p1 : List S43} {x : List Int} (h : partP p0 p1 x = true) : Valid p0 p1 ∧ x.length = p0.length ∧ rangeP x = true := by
  unfold partP at h
  simp only [Bool.and_eq_true, decide_eq_true_eq] at h
  exact ⟨chk_ok h.1, h.2.1, h.2.2⟩
/-! ### the sum of the costs -/
def boundP : List Int → List Int → Int → Int
  | c :: cs, v :: vs, a => boundP cs vs (if v = 1 then wrap64 (a + c) else a)
  | _, _, a => a
theorem bound_l0 (p0 : List Int) (p1 : List S43) (x : List Int) (hx : x.length = p0.length) (hl : x.length ≤ 1000) : ∀ (m i k : Nat) (a : Int), i + m = x.length → m < k → ilp_bound.l0 k a x (x.length : Int) (i : Int) p0 p1 = some (boundP (p0.drop i) (x.drop i) a) := by
  intro m
  induction m with
  | zero =>
    intro i k a hi hk
    obtain ⟨k, rfl, hk⟩ := fuel hk
    simp only [ilp_bound.l0]
    rw [if_neg (by omega), List.drop_of_length_le (l := x) (by omega), List.drop_of_length_le (l := p0) (by omega)]
    rfl
  | succ m ih =>
    intro i k a hi hk
    obtain ⟨k, rfl, hk⟩ := fuel hk
    have hil : i < x.length := by omega
    simp only [ilp_bound.l0]
    rw [if_pos (by omega), if_pos (by omega), if_pos (by omega), wrap_nat i (by omega), dropI hil, dropI (L := p0) (j := i) (by omega)]
    simp only [boundP]
    by_cases e : rd x (i : Int) = 1
    · rw [if_pos e, if_pos e, if_pos (by omega)]; exact ih (i + 1) k _ (by omega) (by omega)
    · rw [if_neg e, if_neg e]; exact ih (i + 1) k _ (by omega) (by omega)
theorem bound_eq (p0 : List Int) (p1 : List S43) (x : List Int) (hx : x.length = p0.length) (hl : x.length ≤ 1000) (k : Nat) (hk : 2000 ≤ k) : ilp_bound.f k p0 p1 x = some (boundP p0 x 0) := by
  have := bound_l0 p0 p1 x hx hl x.length 0 k 0 (by omega) (by omega)
  rw [show ((0 : Nat) : Int) = 0 from rfl, List.drop_zero, List.drop_zero] at this
  exact this
theorem rbound_l0 (p0 : List Int) (p1 : List S43) (hF : Few 70 p0 p1) (x : List Int) (hl : x.length ≤ 1000) (hp : partP p0 p1 x = true) : ∀ (m i k : Nat) (a : Int), i + m = x.length → 2 * m + 9001 < k → saturateref41_Bound.l0 k x a (i : Int) p0 p1 = some (boundP (p0.drop i) (x.drop i) a) := by
  have hx := (partP_true hp).2.1
  intro m
  induction m with
  | zero =>
    intro i k a hi hk
    obtain ⟨k, rfl, hk⟩ := fuel hk
    obtain ⟨k, rfl, hk⟩ := fuel (show 9000 < k by omega)
    simp only [saturateref41_Bound.l0, saturateref41_Bound.j1]
    rw [if_neg (by omega), if_neg (by simp), List.drop_of_length_le (l := x) (by omega), List.drop_of_length_le (l := p0) (by omega)]
    rfl
  | succ m ih =>
    intro i k a hi hk
    obtain ⟨k, rfl, hk⟩ := fuel hk
    have h1 := rpart_eq p0 p1 hF x hl k (by omega)
    obtain ⟨k, rfl, hk⟩ := fuel (show 2 * m + 9001 < k by omega)
    have hil : i < x.length := by omega
    simp only [saturateref41_Bound.l0]
    rw [if_pos (by omega), h1, hp, Option.bind_some]
    simp only [saturateref41_Bound.j1]
    rw [if_pos trivial, if_pos (by omega), if_pos (by omega), wrap_nat i (by omega), dropI hil, dropI (L := p0) (j := i) (by omega)]
    simp only [boundP]
    by_cases e : rd x (i : Int) = 1
    · rw [if_pos e, if_pos e, if_pos (by omega)]; exact ih (i + 1) k _ (by omega) (by omega)
    · rw [if_neg e, if_neg e]; exact ih (i + 1) k _ (by omega) (by omega)
theorem Bound_eq (p0 : List Int) (p1 : List S43) (hF : Few 70 p0 p1) (x : List Int) (hl : x.length ≤ 1000) (k : Nat) (hk : 20000 ≤ k) : ilp_Bound.f k p0 p1 x = some (if partP p0 p1 x then boundP p0 x 0 else 0) := by
  unfold ilp_Bound.f
  rw [part_eq p0 p1 hF x hl k (by omega), Option.bind_some]
  by_cases h : partP p0 p1 x = true
  · rw [if_pos h, if_pos h, bound_eq p0 p1 x (partP_true h).2.1 hl k (by omega)]; rfl
  · rw [if_neg h, if_neg h]
theorem rBound_eq (p0 : List Int) (p1 : List S43) (hF : Few 70 p0 p1) (x : List Int) (hl : x.length ≤ 1000) (k : Nat) (hk : 20000 ≤ k) : saturateref41_Bound.f k p0 p1 x = some (if partP p0 p1 x then boundP p0 x 0 else 0) := by
  unfold saturateref41_Bound.f
  by_cases h : partP p0 p1 x = true
  · rw [if_pos h]
    have := rbound_l0 p0 p1 hF x hl h x.length 0 k 0 (by omega) (by omega)
    rw [show ((0 : Nat) : Int) = 0 from rfl, List.drop_zero, List.drop_zero] at this
    exact this
  · rw [if_neg h]
    obtain ⟨k, rfl, hk⟩ := fuel (show 19999 < k by omega)
    have h1 := rpart_eq p0 p1 hF x hl k (by omega)
    obtain ⟨k, rfl, hk⟩ := fuel (show 19998 < k by omega)
    simp only [saturateref41_Bound.l0]
    rw [h1, Option.bind_some, Bool.eq_false_iff.2 h]
    simp only [saturateref41_Bound.j1]
    simp
/-! ### Propagate -/
theorem Prop_eq (p0 : List Int) (p1 : List S43) (hF : Few 70 p0 p1) (x : List Int) (hl : x.length ≤ 1000) (k : Nat) (hk : 20000 ≤ k) : ilp_Propagate.f k p0 p1 x = some (if partP p0 p1 x then ((runP p1 1000 x).2, (runP p1 1000 x).1) else ([], false)) := by
  unfold ilp_Propagate.f
  rw [part_eq p0 p1 hF x hl k (by omega), Option.bind_some]
  by_cases h : partP p0 p1 x = true
  · rw [if_pos h, if_pos h, Option.bind_some, if_pos (by simp; omega), List.nil_append, propagate_eq p0 p1 hF (partP_true h).1 x (partP_true h).2.1, Option.bind_some]
  · rw [if_neg h, if_neg h]
theorem rProp_eq (p0 : List Int) (p1 : List S43) (hF : Few 70 p0 p1) (x : List Int) (hl : x.length ≤ 100) : saturateref41_Propagate.f p0 p1 x = some (if partP p0 p1 x then ((runP p1 1000 x).2, (runP p1 1000 x).1) else ([], false)) := by
  unfold saturateref41_Propagate.f
  rw [rpart_eq p0 p1 hF x (by omega) 50000 (by omega), Option.bind_some]
  by_cases h : partP p0 p1 x = true
  · have hv := partP_true h
    have := opens_le x
    rw [if_pos h, if_pos h, refRun_eq p0 p1 hF hv.1 1000 x hv.2.1 (by omega)]
  · rw [if_neg h, if_neg h]
theorem same_l0 (x : List Int) (hx : x.length ≤ 100000) : ∀ (m i k : Nat), i + m = x.length → m < k → saturateref03_Same.l0 k x x (i : Int) = some true := by
  intro m
  induction m with
  | zero =>
    intro i k hi hk
    obtain ⟨k, rfl, hk⟩ := fuel hk
    simp only [saturateref03_Same.l0]
    rw [if_neg (by omega)]
  | succ m ih =>
    intro i k hi hk
    obtain ⟨k, rfl, hk⟩ := fuel hk
    simp only [saturateref03_Same.l0]
    rw [if_pos (by omega), if_pos (by omega), if_pos (by omega), if_pos trivial, wrap_nat i (by omega)]
    exact ih (i + 1) k (by omega) (by omega)
theorem same_eq (x : List Int) (hx : x.length ≤ 1000) (k : Nat) (hk : 2000 ≤ k) : saturateref03_Same.f k x x = some true := by
  unfold saturateref03_Same.f
  rw [if_pos rfl]
  exact same_l0 x (by omega) x.length 0 k (by omega) (by omega)
theorem runP_len (p0 : List Int) (p1 : List S43) (hV : Valid p0 p1) : ∀ (n : Nat) (x : List Int), x.length = p0.length → (runP p1 n x).2.length = p0.length
  | 0, x, h => h
  | n + 1, x, h => by
    have h2 : (stepP p1 x).2.length = p0.length := by
      by_cases e1 : (stepP p1 x).1 = 1
      · have := stepP_opens (fun r hr c hc => by have := hV.var hr hc; omega) e1; omega
      · rw [(stepP_ne_one e1).1]; exact h
    simp only [runP]
    by_cases e0 : (stepP p1 x).1 = 0
    · rw [if_pos e0]; exact h2
    · rw [if_neg e0]
      by_cases e1 : (stepP p1 x).1 = 1
      · rw [if_pos e1]; exact runP_len p0 p1 hV n _ h2
      · rw [if_neg e1]; exact h2
/-- The law Propagates. -/
theorem Propagates (p0 : List Int) (p1 : List S43) (x : List Int) : saturatelaw41_IlpPropagates.f 50000 p0 p1 x = some true := by
  have hlv := lives_eq 49999 (by omega)
  have hb : ∀ b, b = true → saturatelaw41_IlpPropagates.j0 50000 x b p0 p1 = some true := by
    rintro b rfl
    simp only [saturatelaw41_IlpPropagates.j0]
    rw [if_pos trivial, hlv]; rfl
  unfold saturatelaw41_IlpPropagates.f
  obtain ⟨b, e, hF⟩ := few_eq 70 (by omega) p0 p1 50000 (by omega)
  rw [show ((70 : Nat) : Int) = 70 from rfl] at e
  rw [e, Option.bind_some]
  by_cases hbt : b = true
  · have hF := hF hbt
    rw [if_pos hbt]
    by_cases hx : 100 < x.length
    · exact hb _ (decide_eq_true (by omega))
    rw [decide_eq_false (by omega)]
    have hc := hF.costs
    simp only [saturatelaw41_IlpPropagates.j0]
    rw [if_neg (by simp), Prop_eq p0 p1 hF x (by omega) _ (by omega), rProp_eq p0 p1 hF x (by omega), Option.bind_some, Option.bind_some, if_pos (by simp), Bound_eq p0 p1 hF x (by omega) _ (by omega), rBound_eq p0 p1 hF x (by omega) _ (by omega), hlv, same_eq _ (by
      by_cases h : partP p0 p1 x = true
      · have hv := partP_true h
        rw [if_pos h]
        have := runP_len p0 p1 hv.1 1000 x hv.2.1
        simp only
        omega
      · rw [if_neg h]; simp) _ (by omega)]
    simp
  · rw [if_neg hbt]; exact hb _ rfl
end Go.Proofs.Ytiigmklolapckaa.Plain
