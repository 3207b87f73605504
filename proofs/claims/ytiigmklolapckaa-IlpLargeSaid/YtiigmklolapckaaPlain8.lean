/- The search finds the first of the cheapest solutions, in plain lists. Condition: a valid problem with few rows and coefficients. -/
import Derived.Test.YtiigmklolapckaaPlainD
import Derived.Test.YtiigmklolapckaaExtSolve
import Derived.Test.YtiigmklolapckaaQAllx1
namespace Go.Proofs.Ytiigmklolapckaa.Plain
open Go.RowKit Go.Proofs.YtiigmklolapckaaW.PrintWords Go.Proofs.YtiigmklolapckaaW.PrintLast Go.Proofs.YtiigmklolapckaaW.PrintMore Go.Proofs.Ytiigmklolapckaa.QAll
set_option linter.unusedVariables false

/-! ### costs -/
/-- The cost of an assignment. -/
def costZ : List Int → List Bool → Int
  | c :: cs, b :: bs => (if b = true then c else 0) + costZ cs bs
  | _, _ => 0
/-- The costs of the variables that are 1. -/
def boundZ : List Int → List Int → Int
  | c :: cs, v :: vs => (if v = 1 then c else 0) + boundZ cs vs
  | _, _ => 0
/-- Costs in their range. -/
def Cheap (p0 : List Int) : Prop := ∀ c ∈ p0, 0 ≤ c ∧ c ≤ 1099511627776
theorem costZ_range : ∀ {p0 : List Int} {s : List Bool}, Cheap p0 → 0 ≤ costZ p0 s ∧ costZ p0 s ≤ 1099511627776 * p0.length
  | [], _, _ => by simp [costZ]
  | c :: cs, [], h => by simp only [costZ]; omega
  | c :: cs, b :: bs, h => by
    have h1 := h c List.mem_cons_self
    have ih := costZ_range (p0 := cs) (s := bs) (fun c hc => h c (List.mem_cons_of_mem _ hc))
    have hl : ((c :: cs).length : Int) = cs.length + 1 := by simp
    rw [hl]
    simp only [costZ]
    split <;> omega
theorem boundZ_range : ∀ {p0 : List Int} {x : List Int}, Cheap p0 → 0 ≤ boundZ p0 x ∧ boundZ p0 x ≤ 1099511627776 * p0.length
  | [], _, _ => by simp [boundZ]
  | c :: cs, [], h => by simp only [boundZ]; omega
  | c :: cs, b :: bs, h => by
    have h1 := h c List.mem_cons_self
    have ih := boundZ_range (p0 := cs) (x := bs) (fun c hc => h c (List.mem_cons_of_mem _ hc))
    have hl : ((c :: cs).length : Int) = cs.length + 1 := by simp
    rw [hl]
    simp only [boundZ]
    split <;> omega
theorem boundP_eq (p0 : List Int) (h : Cheap p0) (x : List Int) (a : Int) (h0 : 0 ≤ a) (h1 : a ≤ 1152921504606846976 - 1099511627776 * p0.length) : boundP p0 x a = a + boundZ p0 x := by
  induction p0 generalizing x a with
  | nil => simp [boundP, boundZ]
  | cons c cs ih =>
    cases x with
    | nil => simp [boundP, boundZ]
    | cons v vs =>
      have hc := h c List.mem_cons_self
      have hl : ((c :: cs).length : Int) = cs.length + 1 := by simp
      rw [hl] at h1
      have ih := fun a h0 h1 => ih (fun c hc => h c (List.mem_cons_of_mem _ hc)) vs a h0 h1
      simp only [boundP, boundZ]
      by_cases e : v = 1
      · rw [if_pos e, if_pos e, wrap_id (by omega) (by omega), ih _ (by omega) (by omega)]; omega
      · rw [if_neg e, if_neg e, ih _ (by omega) (by omega)]; omega
/-- The elements that are told agree, one by one. -/
theorem agr_cons {v : Int} {x : List Int} {b : Bool} {s : List Bool} (h : Agr (v :: x) (b :: s)) : (v = 1 → b = true) ∧ (v = 0 → b = false) ∧ Agr x s := by
  have h0 := h 0 (by omega) (by simp)
  refine ⟨fun e => h0.1 (by simpa [rd] using e), fun e => h0.2 (by simpa [rd] using e), fun w hw0 hw1 => ?_⟩
  have h1 := h (w + 1) (by omega) (by simp; omega)
  have e1 : (w + 1).toNat = w.toNat + 1 := by omega
  simp only [rd, rdOf, e1, List.getD_cons_succ] at h1
  exact h1
theorem tri_cons {v : Int} {x : List Int} (h : Tri (v :: x)) : (v = -1 ∨ v = 0 ∨ v = 1) ∧ Tri x := by
  have h0 := h 0 (by omega) (by simp)
  refine ⟨by simpa [rd] using h0, fun w hw0 hw1 => ?_⟩
  have h1 := h (w + 1) (by omega) (by simp; omega)
  have e1 : (w + 1).toNat = w.toNat + 1 := by omega
  simp only [rd, e1, List.getD_cons_succ] at h1
  exact h1
/-- What is told costs no more than the whole. -/
theorem bound_le : ∀ {p0 x : List Int} {s : List Bool}, Cheap p0 → Tri x → Agr x s → x.length = p0.length → s.length = p0.length → boundZ p0 x ≤ costZ p0 s
  | [], x, s, _, _, _, _, _ => by simp [boundZ, costZ]
  | c :: cs, [], s, _, _, _, h, _ => by simp at h
  | c :: cs, v :: vs, [], _, _, _, _, h => by simp at h
  | c :: cs, v :: vs, b :: bs, hc, ht, ha, h1, h2 => by
    have ⟨a1, a2, a3⟩ := agr_cons ha
    have ⟨t1, t2⟩ := tri_cons ht
    have h0 := hc c List.mem_cons_self
    have ih := bound_le (p0 := cs) (x := vs) (s := bs) (fun c h => hc c (List.mem_cons_of_mem _ h)) t2 a3 (by simpa using h1) (by simpa using h2)
    simp only [boundZ, costZ]
    by_cases e : v = 1
    · rw [if_pos e, if_pos (a1 e)]; omega
    · rw [if_neg e]
      split <;> omega
/-- And an open variable that is true in the whole costs more. -/
theorem bound_more : ∀ {p0 x : List Int} {s : List Bool} {v : Nat}, Cheap p0 → Tri x → Agr x s → x.length = p0.length → s.length = p0.length → v < x.length → x.getD v 0 = -1 → s.getD v false = true → boundZ p0 x + p0.getD v 0 ≤ costZ p0 s
  | [], x, s, v, _, _, _, h, _, hv, _, _ => by simp at h; subst h; simp at hv
  | c :: cs, [], s, v, _, _, _, h, _, _, _, _ => by simp at h
  | c :: cs, w :: vs, [], v, _, _, _, _, h, _, _, _ => by simp at h
  | c :: cs, w :: vs, b :: bs, 0, hc, ht, ha, h1, h2, hv, ho, hs => by
    have ⟨a1, a2, a3⟩ := agr_cons ha
    have ⟨t1, t2⟩ := tri_cons ht
    have ih := bound_le (p0 := cs) (x := vs) (s := bs) (fun c h => hc c (List.mem_cons_of_mem _ h)) t2 a3 (by simpa using h1) (by simpa using h2)
    simp only [List.getD_cons_zero] at ho hs ⊢
    simp only [boundZ, costZ]
    rw [if_neg (by omega), if_pos hs]
    omega
  | c :: cs, w :: vs, b :: bs, v + 1, hc, ht, ha, h1, h2, hv, ho, hs => by
    have ⟨a1, a2, a3⟩ := agr_cons ha
    have ⟨t1, t2⟩ := tri_cons ht
    have h0 := hc c List.mem_cons_self
    simp only [List.getD_cons_succ] at ho hs ⊢
    have ih := bound_more (p0 := cs) (x := vs) (s := bs) (v := v) (fun c h => hc c (List.mem_cons_of_mem _ h)) t2 a3 (by simpa using h1) (by simpa using h2) (by simpa using hv) ho hs
    simp only [boundZ, costZ]
    by_cases e : w = 1
    · rw [if_pos e, if_pos (a1 e)]; omega
    · rw [if_neg e]
      split <;> omega
/-! ### the lower bound of what is open -/
/-- The sum of the coefficients of the variables that are 1. -/
def sureP : List S45 → List Int → Int → Int
  | [], _, a => a
  | c :: cs, x, a => sureP cs x (if rd x c.f0 = 1 then wrap64 (a + c.f1) else a)
/-- The cheapest open variable of a row with a positive coefficient. -/
def cheapP (p0 : List Int) : List S45 → List Int → Int → Int
  | [], _, a => a
  | c :: cs, x, a => cheapP p0 cs x (if rd x c.f0 = 1 then a else if rd x c.f0 = -1 then (if c.f1 > 0 then mn a (rd p0 c.f0) else a) else a)
/-- What a row adds to the bound. -/
def rowMore (sure cheap least acc : Int) : Int := if sure < least then (if cheap < 1099511627776 then mx acc cheap else acc) else acc
def moreP (p0 : List Int) : List S43 → List Int → Int → Int
  | [], _, a => a
  | r :: rs, x, a => moreP p0 rs x (rowMore (sureP r.f0 x 0) (cheapP p0 r.f0 x 1099511627776) r.f1 a)
section
variable (p0 : List Int) (p1 : List S43) (x : List Int) (hx : x.length = p0.length)
include hx
theorem more_l1 (L : List S45) (least : Int) (acc : Int) (i0 : Nat) (hL : L.length ≤ 70) (hi0 : i0 ≤ 100) (hv : ∀ c ∈ L, 0 ≤ c.f0 ∧ c.f0 < x.length) (K0 : Nat) (R : Int → Int)
    (hR : ∀ k a, K0 ≤ k → ilp_more.l0 k x a p1 (p1.length : Int) ((i0 + 1 : Nat) : Int) p0 p1 = some (R a)) :
    ∀ (m i k : Nat) (a b : Int), i + m = L.length → K0 + m < k → ilp_more.l1 k x acc a b p1 (p1.length : Int) (i0 : Int) L (L.length : Int) (i : Int) p0 p1 L least =
      some (R (rowMore (sureP (L.drop i) x a) (cheapP p0 (L.drop i) x b) least acc)) := by
  intro m
  induction m with
  | zero =>
    intro i k a b hi hk
    obtain ⟨k, rfl, hk⟩ := fuel hk
    simp only [ilp_more.l1]
    rw [if_neg (by omega), List.drop_of_length_le (by omega), wrap_nat i0 (by omega), hR k _ (by omega), hR k _ (by omega)]
    unfold rowMore
    by_cases e1 : a < least
    · rw [if_pos e1, if_pos (show sureP [] x a < least from e1)]
      by_cases e2 : b < 1099511627776
      · rw [if_pos e2, if_pos (show cheapP p0 [] x b < 1099511627776 from e2)]; rfl
      · rw [if_neg e2, if_neg (show ¬ cheapP p0 [] x b < 1099511627776 from e2)]
    · rw [if_neg e1, if_neg (show ¬ sureP [] x a < least from e1)]
  | succ m ih =>
    intro i k a b hi hk
    obtain ⟨k, rfl, hk⟩ := fuel hk
    have hil : i < L.length := by omega
    have := hv _ (rd45_mem hil)
    simp only [ilp_more.l1]
    rw [if_pos (by omega), if_pos (by omega), if_pos (by omega), if_pos this.1, if_pos this.2, wrap_nat i (by omega), drop45 hil]
    simp only [sureP, cheapP]
    by_cases e1 : rd x (rd_T45 L (i : Int)).f0 = 1
    · rw [if_pos e1, if_pos e1, if_pos e1]; exact ih (i + 1) k _ _ (by omega) (by omega)
    · rw [if_neg e1, if_neg e1, if_neg e1]
      by_cases e2 : rd x (rd_T45 L (i : Int)).f0 = -1
      · rw [if_pos e2, if_pos e2]
        by_cases e3 : (rd_T45 L (i : Int)).f1 > 0
        · rw [if_pos e3, if_pos e3, if_pos (by omega)]; exact ih (i + 1) k _ _ (by omega) (by omega)
        · rw [if_neg e3, if_neg e3]; exact ih (i + 1) k _ _ (by omega) (by omega)
      · rw [if_neg e2, if_neg e2]; exact ih (i + 1) k _ _ (by omega) (by omega)
theorem more_l0 (hF : Few 70 p0 p1) (hV : Valid p0 p1) : ∀ (m i k : Nat) (a : Int), i + m = p1.length → m * 80 < k → ilp_more.l0 k x a p1 (p1.length : Int) (i : Int) p0 p1 = some (moreP p0 (p1.drop i) x a) := by
  have hr := hF.rows
  intro m
  induction m with
  | zero =>
    intro i k a hi hk
    obtain ⟨k, rfl, hk⟩ := fuel hk
    simp only [ilp_more.l0]
    rw [if_neg (by omega), List.drop_of_length_le (by omega)]
    rfl
  | succ m ih =>
    intro i k a hi hk
    obtain ⟨k, rfl, hk⟩ := fuel hk
    have hil : i < p1.length := by omega
    have hm := rd43_mem hil
    have hcf := hF.coefs _ hm
    simp only [ilp_more.l0]
    have h1 := more_l1 p0 p1 x hx (rd_T43 p1 (i : Int)).f0 (rd_T43 p1 (i : Int)).f1 a i hcf (by omega) (fun c hc => by have := hV.var hm hc; omega) (m * 80 + 1) _ (fun k a hk => ih (i + 1) k a (by omega) (by omega)) _ 0 k 0 1099511627776 (Nat.zero_add _) (by omega)
    rw [show ((0 : Nat) : Int) = 0 from rfl, List.drop_zero] at h1
    rw [if_pos (by omega), if_pos (by omega), if_pos (by omega), h1, drop43 hil]
    rfl
theorem more_eq (hF : Few 70 p0 p1) (hV : Valid p0 p1) (k : Nat) (hk : 9000 ≤ k) : ilp_more.f k p0 p1 x = some (moreP p0 p1 x 0) := by
  have hr := hF.rows
  have := more_l0 p0 p1 x hx hF hV p1.length 0 k 0 (by omega) (by omega)
  rw [show ((0 : Nat) : Int) = 0 from rfl, List.drop_zero] at this
  exact this
end
theorem sureP_le {x : List Int} {s : List Bool} (ha : Agr x s) (ht : Tri x) (L : List S45) (a : Int) (hc : ∀ c ∈ L, -1048576 ≤ c.f1 ∧ c.f1 ≤ 1048576) (hv : ∀ c ∈ L, 0 ≤ c.f0 ∧ c.f0 < x.length)
    (h0 : -1152921504606846976 + L.length * 1048576 ≤ a) (h1 : a ≤ 1152921504606846976 - L.length * 1048576) (hno : ∀ c ∈ L, rd x c.f0 = -1 → c.f1 > 0 → rdOf false s c.f0 = false) : a + sumZ L s ≤ sureP L x a := by
  induction L generalizing a with
  | nil => simp [sureP, sumZ]
  | cons c cs ih =>
    have hb := hc c List.mem_cons_self
    have hvv := hv c List.mem_cons_self
    have hn := hno c List.mem_cons_self
    have hl : ((c :: cs).length : Int) = cs.length + 1 := by simp
    rw [hl] at h0 h1
    have ih := fun a h0 h1 => ih a (fun c h => hc c (List.mem_cons_of_mem _ h)) (fun c h => hv c (List.mem_cons_of_mem _ h)) h0 h1 (fun c h => hno c (List.mem_cons_of_mem _ h))
    have ha := ha c.f0 hvv.1 hvv.2
    simp only [sureP, sumZ]
    rcases ht c.f0 hvv.1 hvv.2 with e | e | e
    · rw [if_neg (show ¬ rd x c.f0 = 1 by omega)]
      have := ih a (by omega) (by omega)
      by_cases e3 : c.f1 > 0
      · rw [if_neg (by rw [hn e e3]; simp)]; omega
      · split <;> omega
    · rw [if_neg (show ¬ rd x c.f0 = 1 by omega), if_neg (by rw [ha.2 e]; simp)]
      have := ih a (by omega) (by omega)
      omega
    · rw [if_pos e, if_pos (ha.1 e), wrap_id (by omega) (by omega)]
      have := ih (a + c.f1) (by omega) (by omega)
      omega
theorem mn_le (a b : Int) : mn a b ≤ a ∧ mn a b ≤ b := by unfold mn; split <;> omega
theorem mx_or (a b : Int) : mx a b = a ∨ mx a b = b := by unfold mx; split <;> simp
theorem cheapP_le {p0 x : List Int} {d : S45} (ho : rd x d.f0 = -1) (hd : d.f1 > 0) : ∀ (L : List S45) (a : Int), cheapP p0 L x a ≤ a ∧ (d ∈ L → cheapP p0 L x a ≤ rd p0 d.f0)
  | [], a => ⟨Int.le_refl _, fun h => by cases h⟩
  | c :: cs, a => by
    have hm := mn_le a (rd p0 c.f0)
    have ih := cheapP_le (p0 := p0) ho hd cs
    simp only [cheapP]
    refine ⟨?_, fun h => ?_⟩
    · repeat' split
      all_goals (have := (ih a).1; have := (ih (mn a (rd p0 c.f0))).1; omega)
    · rcases List.mem_cons.1 h with rfl | h
      · rw [if_neg (by omega), if_pos ho, if_pos hd]
        have := (ih (mn a (rd p0 d.f0))).1
        omega
      · exact (ih _).2 h
theorem cheapP_ge {p0 x : List Int} (hp : Cheap p0) : ∀ (L : List S45) (a : Int), (∀ c ∈ L, 0 ≤ c.f0 ∧ c.f0 < p0.length) → 0 ≤ a → 0 ≤ cheapP p0 L x a
  | [], a, _, h => h
  | c :: cs, a, hv, h => by
    have hvv := hv c List.mem_cons_self
    have h1 := hp _ (rd_mem hvv.1 hvv.2)
    have ih := fun a => cheapP_ge (p0 := p0) (x := x) hp cs a (fun c h => hv c (List.mem_cons_of_mem _ h))
    simp only [cheapP]
    refine ih _ ?_
    unfold mn
    repeat' split
    all_goals omega
section
variable {p0 : List Int} {p1 : List S43} (hV : Valid p0 p1)
include hV
/-- What is told and what is open cost together no more than any solution that agrees. -/
theorem more_le {x : List Int} {s : List Bool} (hx : x.length = p0.length) (hs : s.length = p0.length) (ht : Tri x) (ha : Agr x s) (hsol : Sol p1 s) :
    ∀ (l : List S43) (a : Int), (∀ r ∈ l, r ∈ p1) → boundZ p0 x + a ≤ costZ p0 s → boundZ p0 x + moreP p0 l x a ≤ costZ p0 s
  | [], a, _, h => h
  | r :: rs, a, hl, h => by
    have hr := hl r List.mem_cons_self
    have h64 := hV.len64 hr
    simp only [moreP]
    refine more_le hx hs ht ha hsol rs _ (fun r h => hl r (List.mem_cons_of_mem _ h)) ?_
    unfold rowMore
    by_cases e1 : sureP r.f0 x 0 < r.f1
    · rw [if_pos e1]
      by_cases e2 : cheapP p0 r.f0 x 1099511627776 < 1099511627776
      · rw [if_pos e2]
        rcases mx_or a (cheapP p0 r.f0 x 1099511627776) with e | e
        · rw [e]; exact h
        · rw [e]
          by_cases hno : ∀ c ∈ r.f0, rd x c.f0 = -1 → c.f1 > 0 → rdOf false s c.f0 = false
          · have := sureP_le ha ht r.f0 0 (fun c hc => by have := hV.var hr hc; omega) (fun c hc => by have := hV.var hr hc; omega) (by omega) (by omega) hno
            have := hsol r hr
            omega
          · have : ∃ c ∈ r.f0, rd x c.f0 = -1 ∧ c.f1 > 0 ∧ rdOf false s c.f0 = true := by
              apply Classical.byContradiction
              intro hne
              refine hno (fun c hc h1 h2 => ?_)
              cases h3 : rdOf false s c.f0
              · rfl
              · exact absurd ⟨c, hc, h1, h2, h3⟩ hne
            obtain ⟨c, hc, h1, h2, h3⟩ := this
            have hv := hV.var hr hc
            have h4 := (cheapP_le (p0 := p0) h1 h2 r.f0 1099511627776).2 hc
            have h5 := bound_more hV.costs ht ha hx hs (v := c.f0.toNat) (by omega) (by simpa [rd] using h1) (by simpa [rdOf] using h3)
            have h6 : rd p0 c.f0 = p0.getD c.f0.toNat 0 := rfl
            omega
      · rw [if_neg e2]; exact h
    · rw [if_neg e1]; exact h
theorem moreP_range {x : List Int} : ∀ (l : List S43) (a : Int), (∀ r ∈ l, r ∈ p1) → 0 ≤ a → a ≤ 1099511627776 → 0 ≤ moreP p0 l x a ∧ moreP p0 l x a ≤ 1099511627776
  | [], a, _, h0, h1 => ⟨h0, h1⟩
  | r :: rs, a, hl, h0, h1 => by
    have hr := hl r List.mem_cons_self
    have hg := cheapP_ge (p0 := p0) (x := x) hV.costs r.f0 1099511627776 (fun c hc => by have := hV.var hr hc; omega) (by omega)
    simp only [moreP]
    refine moreP_range rs _ (fun r h => hl r (List.mem_cons_of_mem _ h)) ?_ ?_
    · unfold rowMore mx
      repeat' split
      all_goals omega
    · unfold rowMore mx
      repeat' split
      all_goals omega
end

/-! ### the order of assignments -/
/-- s comes before t. -/
def Lex : List Bool → List Bool → Prop
  | a :: s, b :: t => (a = false ∧ b = true) ∨ (a = b ∧ Lex s t)
  | _, _ => False
theorem Lex.asymm : ∀ {s t : List Bool}, Lex s t → Lex t s → False
  | [], _, h, _ => h
  | _ :: _, [], h, _ => h
  | a :: s, b :: t, h, g => by
    rcases h with ⟨rfl, rfl⟩ | ⟨rfl, h⟩
    · rcases g with ⟨g, _⟩ | ⟨g, _⟩ <;> cases g
    · rcases g with ⟨g1, g2⟩ | ⟨_, g⟩
      · rw [g1] at g2; cases g2
      · exact Lex.asymm h g
theorem Lex.at {s t : List Bool} (hl : s.length = t.length) : ∀ {j : Nat}, j < s.length → (∀ i, i < j → s.getD i false = t.getD i false) → s.getD j false = false → t.getD j false = true → Lex s t := by
  induction s generalizing t with
  | nil => intro j h; simp at h
  | cons a s ih =>
    cases t with
    | nil => simp at hl
    | cons b t =>
      intro j hj hi h0 h1
      cases j with
      | zero => exact .inl ⟨by simpa using h0, by simpa using h1⟩
      | succ j =>
        refine .inr ⟨by simpa using hi 0 (by omega), ih (by simpa using hl) (j := j) (by simpa using hj) (fun i h => by simpa using hi (i + 1) (by omega)) (by simpa using h0) (by simpa using h1)⟩
/-- s is the first of the cheapest with P. -/
def First (p0 : List Int) (P : List Bool → Prop) (s : List Bool) : Prop := P s ∧ ∀ t, P t → costZ p0 s < costZ p0 t ∨ (costZ p0 s = costZ p0 t ∧ (s = t ∨ Lex s t))
theorem First.unique {p0 : List Int} {P : List Bool → Prop} {s t : List Bool} (hs : First p0 P s) (ht : First p0 P t) : s = t := by
  rcases hs.2 t ht.1 with h | ⟨h1, h | h⟩
  · rcases ht.2 s hs.1 with g | ⟨g, _⟩ <;> omega
  · exact h
  · rcases ht.2 s hs.1 with g | ⟨_, g | g⟩
    · omega
    · exact g.symm
    · exact (Lex.asymm h g).elim
/-! ### the first open variable -/
theorem firstOpen_le : ∀ x : List Int, firstOpen x ≤ x.length
  | [] => Nat.le_refl _
  | v :: vs => by
    have := firstOpen_le vs
    simp only [firstOpen, List.length_cons]
    split <;> omega
theorem firstOpen_at : ∀ x : List Int, firstOpen x < x.length → x.getD (firstOpen x) 0 = -1
  | [], h => by simp at h
  | v :: vs, h => by
    simp only [firstOpen, List.length_cons] at h ⊢
    by_cases e : v = -1
    · rw [if_pos e]; simpa using e
    · rw [if_neg e] at h ⊢
      simpa using firstOpen_at vs (by omega)
theorem firstOpen_before : ∀ (x : List Int) (i : Nat), i < firstOpen x → x.getD i 0 ≠ -1
  | [], i, h => by simp [firstOpen] at h
  | v :: vs, i, h => by
    simp only [firstOpen] at h
    by_cases e : v = -1
    · rw [if_pos e] at h; omega
    · rw [if_neg e] at h
      cases i with
      | zero => simpa using e
      | succ i => simpa using firstOpen_before vs i (by omega)
/-! ### when all is told -/
theorem stepP_two {x : List Int} : ∀ {l : List S43}, (stepP l x).1 = 2 → ∀ r ∈ l, ¬ reachP r.f0 x 0 < r.f1
  | [], _, r, h => by cases h
  | r0 :: rs, h, r, hr => by
    simp only [stepP] at h
    by_cases e : reachP r0.f0 x 0 < r0.f1
    · rw [if_pos e] at h; cases h
    · rw [if_neg e] at h
      cases hf : forceP (reachP r0.f0 x 0) r0.f1 r0.f0 x with
      | some q => rw [hf] at h; cases h
      | none =>
        rw [hf] at h
        rcases List.mem_cons.1 hr with rfl | hr
        · exact e
        · exact stepP_two h r hr
/-- The whole that is told. -/
def whole (x : List Int) : List Bool := x.map (· == 1)
theorem whole_at {x : List Int} {v : Nat} (h : v < x.length) : (whole x).getD v false = (x.getD v 0 == 1) := by
  simp [whole, List.getD_eq_getElem?_getD, List.getElem?_eq_getElem h]
theorem whole_sum {x : List Int} (ht : Tri x) (hn : ∀ v : Nat, v < x.length → x.getD v 0 ≠ -1) : ∀ {L : List S45}, (∀ c ∈ L, 0 ≤ c.f0 ∧ c.f0 < x.length) → sumZ L (whole x) = reachZ L x
  | [], _ => rfl
  | c :: cs, hv => by
    have h := hv c List.mem_cons_self
    have ih := whole_sum ht hn (fun c h => hv c (List.mem_cons_of_mem _ h))
    have h1 := hn c.f0.toNat (by omega)
    have h2 : rdOf false (whole x) c.f0 = (rd x c.f0 == 1) := whole_at (by omega)
    have h3 : rd x c.f0 ≠ -1 := h1
    simp only [sumZ, reachZ]
    rw [h2, ih, if_neg h3]
    by_cases e : rd x c.f0 = 1
    · rw [if_pos (by simpa using e), if_pos e]
    · rw [if_neg (by simpa using e), if_neg e]
theorem whole_cost : ∀ (p0 x : List Int), costZ p0 (whole x) = boundZ p0 x
  | [], x => by simp [costZ, boundZ]
  | c :: cs, [] => by simp [whole, costZ, boundZ]
  | c :: cs, v :: vs => by
    have ih := whole_cost cs vs
    simp only [whole, List.map_cons, costZ, boundZ] at ih ⊢
    rw [ih]
    by_cases e : v = 1 <;> simp [e]
theorem whole_only {x : List Int} {s : List Bool} (ht : Tri x) (hn : ∀ v : Nat, v < x.length → x.getD v 0 ≠ -1) (hs : s.length = x.length) (ha : Agr x s) : s = whole x := by
  apply List.ext_getElem (by simp [whole, hs])
  intro i h1 h2
  have hi : i < x.length := by omega
  have e1 : s[i] = s.getD i false := by simp [List.getD_eq_getElem?_getD, List.getElem?_eq_getElem h1]
  have e2 : (whole x)[i] = (whole x).getD i false := by simp [List.getD_eq_getElem?_getD, List.getElem?_eq_getElem h2]
  rw [e1, e2, whole_at hi]
  have a := ha (i : Int) (by omega) (by omega)
  have t := ht (i : Int) (by omega) (by omega)
  have n := hn i hi
  have r1 : rd x (i : Int) = x.getD i 0 := rfl
  have r2 : rdOf false s (i : Int) = s.getD i false := rfl
  rw [r1, r2] at a
  rw [r1] at t
  rcases t with t | t | t
  · exact absurd t n
  · rw [a.2 t, t]; rfl
  · rw [a.1 t, t]; rfl
theorem whole_agr {x : List Int} : Agr x (whole x) := by
  intro v h0 h1
  have e : rdOf false (whole x) v = (rd x v == 1) := whole_at (by omega)
  rw [e]
  exact ⟨fun h => by simp [h], fun h => by simp [h]⟩
section
variable {p0 : List Int} {p1 : List S43} (hV : Valid p0 p1)
include hV
theorem run_opens : ∀ (n : Nat) {x : List Int}, x.length = p0.length → opens (runP p1 n x).2 ≤ opens x
  | 0, x, _ => Nat.le_refl _
  | n + 1, x, hx => by
    have hv : ∀ r ∈ p1, ∀ c ∈ r.f0, 0 ≤ c.f0 ∧ c.f0 < x.length := fun r hr c hc => by have := hV.var hr hc; omega
    simp only [runP]
    by_cases e1 : (stepP p1 x).1 = 1
    · have h := stepP_opens hv e1
      rw [if_neg (by omega), if_pos e1]
      have := run_opens n (x := (stepP p1 x).2) (by omega)
      omega
    · have h := (stepP_ne_one e1).1
      by_cases e0 : (stepP p1 x).1 = 0
      · rw [if_pos e0, h]; exact Nat.le_refl _
      · rw [if_neg e0, if_neg e1, h]; exact Nat.le_refl _
theorem run_done : ∀ (n : Nat) {x : List Int}, x.length = p0.length → opens x < n → (runP p1 n x).1 = true → (stepP p1 (runP p1 n x).2).1 = 2
  | 0, x, _, h, _ => by omega
  | n + 1, x, hx, hn, h => by
    have hv : ∀ r ∈ p1, ∀ c ∈ r.f0, 0 ≤ c.f0 ∧ c.f0 < x.length := fun r hr c hc => by have := hV.var hr hc; omega
    simp only [runP] at h ⊢
    by_cases e1 : (stepP p1 x).1 = 1
    · have h2 := stepP_opens hv e1
      rw [if_neg (by omega), if_pos e1] at h ⊢
      exact run_done n (by omega) (by omega) h
    · have h2 := stepP_ne_one e1
      by_cases e0 : (stepP p1 x).1 = 0
      · rw [if_pos e0] at h; cases h
      · rw [if_neg e0, if_neg e1] at h ⊢
        rw [h2.1]
        rcases h2.2 with h3 | h3
        · exact absurd h3 e0
        · exact h3
/-- The solutions that agree. -/
def Sols (p0 : List Int) (p1 : List S43) (x : List Int) (s : List Bool) : Prop := s.length = p0.length ∧ Sol p1 s ∧ Agr x s
/-- What a search over the solutions that agree with x makes of what was found before. -/
def Found (p0 : List Int) (p1 : List S43) (x : List Int) (b : List Bool) (l : Int) (b' : List Bool) (l' : Int) : Prop :=
  (b' = b ∧ l' = l ∧ ∀ s, Sols p0 p1 x s → 0 ≤ l ∧ l ≤ costZ p0 s) ∨ (First p0 (Sols p0 p1 x) b' ∧ l' = costZ p0 b' ∧ (l < 0 ∨ l' < l))
theorem sols_run {x : List Int} (hx : x.length = p0.length) (ht : Tri x) (n : Nat) (s : List Bool) : Sols p0 p1 x s ↔ (runP p1 n x).1 = true ∧ Sols p0 p1 (runP p1 n x).2 s := by
  constructor
  · intro h
    have := run_sound hV h.2.1 n hx ht h.2.2
    exact ⟨this.1, h.1, h.2.1, this.2⟩
  · rintro ⟨h1, h2⟩
    · have hk := run_keeps hV n hx ht
      refine ⟨h2.1, h2.2.1, fun v h0 hv => ?_⟩
      have ha := h2.2.2 v h0 (by omega)
      by_cases e : rd x v = -1
      · exact ⟨fun h => by omega, fun h => by omega⟩
      · rw [hk.2.2 v h0 hv e] at ha; exact ha
omit hV in
/-- Split at an open variable. -/
theorem sols_split {y : List Int} (hy : y.length = p0.length) {j : Nat} (hj : j < y.length) (ho : y.getD j 0 = -1) (s : List Bool) :
    Sols p0 p1 y s ↔ Sols p0 p1 (y.set j 0) s ∨ Sols p0 p1 (y.set j 1) s := by
  have hback : ∀ b : Int, Sols p0 p1 (y.set j b) s → Sols p0 p1 y s := by
    intro b h
    refine ⟨h.1, h.2.1, fun v h0 h1 => ?_⟩
    have ha := h.2.2 v h0 (by rw [List.length_set]; exact h1)
    have e := rd_set (x := y) (i := (j : Int)) (v := v) (b := b) (by omega) (by omega) h0
    rw [Int.toNat_natCast] at e
    rw [e] at ha
    by_cases ev : v = (j : Int)
    · subst ev
      have : rd y (j : Int) = -1 := ho
      exact ⟨fun h => by omega, fun h => by omega⟩
    · rw [if_neg ev] at ha; exact ha
  constructor
  · intro h
    cases e : rdOf false s (j : Int)
    · have := set_agr h.2.2 (v := (j : Int)) (b := 0) (by omega) (by omega) (.inr ⟨rfl, e⟩)
      rw [Int.toNat_natCast] at this
      exact .inl ⟨h.1, h.2.1, this⟩
    · have := set_agr h.2.2 (v := (j : Int)) (b := 1) (by omega) (by omega) (.inl ⟨rfl, e⟩)
      rw [Int.toNat_natCast] at this
      exact .inr ⟨h.1, h.2.1, this⟩
  · rintro (h | h)
    · exact hback _ h
    · exact hback _ h
omit hV in
theorem sols_lex {y : List Int} (hy : y.length = p0.length) (ht : Tri y) {j : Nat} (hj : j < y.length) (hb : ∀ i, i < j → y.getD i 0 ≠ -1) {s t : List Bool} (hs : Sols p0 p1 (y.set j 0) s) (hu : Sols p0 p1 (y.set j 1) t) : Lex s t := by
  have hset : ∀ (b : Int) (i : Nat), i < y.length → rd (y.set j b) (i : Int) = if i = j then b else y.getD i 0 := by
    intro b i hi
    have e := rd_set (x := y) (i := (j : Int)) (v := (i : Int)) (b := b) (by omega) (by omega) (by omega)
    rw [Int.toNat_natCast] at e
    rw [e]
    by_cases ei : i = j
    · rw [if_pos (by omega), if_pos ei]
    · rw [if_neg (by omega), if_neg ei]; rfl
  refine Lex.at (by rw [hs.1, hu.1]) (j := j) (by rw [hs.1]; omega) (fun i hi => ?_) ?_ ?_
  · have a := hs.2.2 (i : Int) (by omega) (by rw [List.length_set]; omega)
    have c := hu.2.2 (i : Int) (by omega) (by rw [List.length_set]; omega)
    rw [hset 0 i (by omega), if_neg (by omega)] at a
    rw [hset 1 i (by omega), if_neg (by omega)] at c
    have t := ht (i : Int) (by omega) (by omega)
    have r1 : rd y (i : Int) = y.getD i 0 := rfl
    have r2 : rdOf false s (i : Int) = s.getD i false := rfl
    have r3 : ∀ u : List Bool, rdOf false u (i : Int) = u.getD i false := fun _ => rfl
    rw [r1] at t
    rw [r3] at a c
    rcases t with t | t | t
    · exact absurd t (hb i hi)
    · rw [a.2 t, c.2 t]
    · rw [a.1 t, c.1 t]
  · have a := hs.2.2 (j : Int) (by omega) (by rw [List.length_set]; omega)
    rw [hset 0 j hj, if_pos rfl] at a
    exact a.2 rfl
  · have a := hu.2.2 (j : Int) (by omega) (by rw [List.length_set]; omega)
    rw [hset 1 j hj, if_pos rfl] at a
    exact a.1 rfl
end
theorem Found.join {p0 : List Int} {p1 : List S43} {y : List Int} {j : Nat} {b b1 b2 : List Bool} {l l1 l2 : Int} (hcost : ∀ s, 0 ≤ costZ p0 s)
    (hsplit : ∀ s, Sols p0 p1 y s ↔ Sols p0 p1 (y.set j 0) s ∨ Sols p0 p1 (y.set j 1) s)
    (hlex : ∀ s t, Sols p0 p1 (y.set j 0) s → Sols p0 p1 (y.set j 1) t → Lex s t)
    (h1 : Found p0 p1 (y.set j 0) b l b1 l1) (h2 : Found p0 p1 (y.set j 1) b1 l1 b2 l2) : Found p0 p1 y b l b2 l2 := by
  rcases h1 with ⟨rfl, rfl, h1⟩ | ⟨f1, e1, c1⟩
  · rcases h2 with ⟨rfl, rfl, h2⟩ | ⟨f2, e2, c2⟩
    · exact .inl ⟨rfl, rfl, fun s hs => ((hsplit s).1 hs).elim (h1 s) (h2 s)⟩
    · refine .inr ⟨⟨(hsplit _).2 (.inr f2.1), fun t ht => ?_⟩, e2, c2⟩
      rcases (hsplit t).1 ht with ht | ht
      · have := h1 t ht
        rcases c2 with c2 | c2
        · omega
        · exact .inl (by omega)
      · exact f2.2 t ht
  · rcases h2 with ⟨rfl, rfl, h2⟩ | ⟨f2, e2, c2⟩
    · refine .inr ⟨⟨(hsplit _).2 (.inl f1.1), fun t ht => ?_⟩, e1, c1⟩
      rcases (hsplit t).1 ht with ht | ht
      · exact f1.2 t ht
      · have := h2 t ht
        by_cases e : costZ p0 b2 = costZ p0 t
        · exact .inr ⟨e, .inr (hlex _ _ f1.1 ht)⟩
        · exact .inl (by omega)
    · refine .inr ⟨⟨(hsplit _).2 (.inr f2.1), fun t ht => ?_⟩, e2, ?_⟩
      · rcases (hsplit t).1 ht with ht | ht
        · have := hcost b1
          rcases f1.2 t ht with h | ⟨h, _⟩ <;> exact .inl (by omega)
        · exact f2.2 t ht
      · have := hcost b1
        rcases c1 with c1 | c1
        · exact .inl c1
        · exact .inr (by omega)
/-! ### the search -/
theorem opens_pos : ∀ {x : List Int} {i : Nat}, i < x.length → x.getD i 0 = -1 → 0 < opens x := by
  intro x i hi h
  unfold opens
  rw [List.count_pos_iff, ← h]
  simp [List.getD_eq_getElem?_getD, List.getElem?_eq_getElem hi]
section
variable (p0 : List Int) (p1 : List S43) (hF : Few 70 p0 p1) (hV : Valid p0 p1)
include hF hV
theorem pruned_eq (y : List Int) (hy : y.length = p0.length) (l : Int) : pruned p0 p1 y l = some (if 0 ≤ l then decide (l ≤ boundZ p0 y + moreP p0 p1 y 0) else false) := by
  have hc := hF.costs
  have hb := boundZ_range (p0 := p0) (x := y) hV.costs
  have hm := moreP_range hV (x := y) p1 0 (fun _ h => h) (by omega) (by omega)
  unfold pruned
  by_cases h : 0 ≤ l
  · rw [if_pos h, if_pos h, bound_eq p0 p1 y hy (by omega) _ (by omega), Option.bind_some, more_eq p0 p1 y hy hF hV _ (by omega), Option.bind_some, boundP_eq p0 hV.costs y 0 (by omega) (by omega), wrap_id (by omega) (by omega), Int.zero_add]
  · rw [if_neg h, if_neg h]
theorem srch_ok : ∀ (n : Nat) (x : List Int) (b : List Bool) (l : Int), x.length = p0.length → Tri x → opens x < n → ∃ b' l', srch p0 p1 n x (b, l) = some (b', l') ∧ Found p0 p1 x b l b' l'
  | 0, x, b, l, _, _, h => by omega
  | n + 1, x, b, l, hx, ht, hn => by
    have hc := hF.costs
    have hox := opens_le x
    have hs := sols_run hV hx ht 1000
    have hk := run_keeps hV 1000 hx ht
    have ho := run_opens hV 1000 hx
    have hd := run_done hV 1000 hx (by omega)
    simp only [srch]
    rw [propagate_eq p0 p1 hF hV x hx, Option.bind_some]
    generalize hq : runP p1 1000 x = q at hs hk ho hd
    by_cases e1 : q.1 = true
    · rw [if_pos e1, pruned_eq p0 p1 hF hV q.2 hk.1 l, Option.bind_some]
      have hs' : ∀ s, Sols p0 p1 x s ↔ Sols p0 p1 q.2 s := fun s => by rw [hs s]; simp [e1]
      have hmr := moreP_range hV (x := q.2) p1 0 (fun _ h => h) (by omega) (by omega)
      by_cases e2 : 0 ≤ l ∧ l ≤ boundZ p0 q.2 + moreP p0 p1 q.2 0
      · rw [if_pos e2.1, decide_eq_true e2.2, if_pos rfl]
        refine ⟨b, l, rfl, .inl ⟨rfl, rfl, fun s h => ?_⟩⟩
        have h := (hs' s).1 h
        have := more_le hV hk.1 h.1 hk.2.1 h.2.2 h.2.1 p1 0 (fun _ h => h) (by have := bound_le hV.costs hk.2.1 h.2.2 hk.1 h.1; omega)
        omega
      · have e3 : (if 0 ≤ l then decide (l ≤ boundZ p0 q.2 + moreP p0 p1 q.2 0) else false) = false := by
          by_cases e : 0 ≤ l
          · rw [if_pos e]; exact decide_eq_false (fun h => e2 ⟨e, h⟩)
          · rw [if_neg e]
        rw [e3, if_neg (by simp)]
        by_cases e4 : firstOpen q.2 = q.2.length
        · rw [if_pos e4, bound_eq p0 p1 q.2 hk.1 (by omega) _ (by omega), Option.bind_some, boundP_eq p0 hV.costs q.2 0 (by omega) (by omega), Int.zero_add]
          have hno : ∀ v : Nat, v < q.2.length → q.2.getD v 0 ≠ -1 := fun v hv => firstOpen_before q.2 v (by omega)
          have hw : Sols p0 p1 q.2 (whole q.2) := by
            refine ⟨by simp [whole, hk.1], fun r hr => ?_, whole_agr⟩
            have h1 := stepP_two (hd e1) r hr
            rw [reach_plain hV hr] at h1
            rw [whole_sum hk.2.1 hno (fun c hc => by have := hV.var hr hc; omega)]
            omega
          refine ⟨_, _, rfl, .inr ⟨⟨(hs' _).2 hw, fun t h => .inr ?_⟩, (whole_cost p0 q.2).symm, ?_⟩⟩
          · have h := (hs' t).1 h
            have := whole_only hk.2.1 hno (by rw [h.1, hk.1]) h.2.2
            rw [this]
            exact ⟨rfl, .inl rfl⟩
          · by_cases e : 0 ≤ l
            · exact .inr (by have := fun h => e2 ⟨e, h⟩; omega)
            · exact .inl (by omega)
        · rw [if_neg e4]
          have hle := firstOpen_le q.2
          have hj : firstOpen q.2 < q.2.length := by omega
          have hat := firstOpen_at q.2 hj
          have hop : ∀ b : Int, b = 0 ∨ b = 1 → opens (q.2.set (firstOpen q.2) b) + 1 = opens q.2 := fun b hb => by
            have := opens_set (x := q.2) (v := (firstOpen q.2 : Int)) (b := b) (by omega) (by omega) hat hb
            rwa [Int.toNat_natCast] at this
          have hts : ∀ b : Int, b = 0 ∨ b = 1 → Tri (q.2.set (firstOpen q.2) b) := fun b hb => by
            have := set_tri hk.2.1 (v := (firstOpen q.2 : Int)) (b := b) (by omega) (by omega) hb
            rwa [Int.toNat_natCast] at this
          have o0 := hop 0 (.inl rfl)
          have o1 := hop 1 (.inr rfl)
          obtain ⟨b1, l1, h1, f1⟩ := srch_ok n (q.2.set (firstOpen q.2) 0) b l (by rw [List.length_set]; exact hk.1) (hts 0 (.inl rfl)) (by omega)
          obtain ⟨b2, l2, h2, f2⟩ := srch_ok n (q.2.set (firstOpen q.2) 1) b1 l1 (by rw [List.length_set]; exact hk.1) (hts 1 (.inr rfl)) (by omega)
          rw [h1, Option.bind_some, h2]
          refine ⟨b2, l2, rfl, ?_⟩
          have := Found.join (fun s => (costZ_range hV.costs).1) (fun s => sols_split hk.1 hj hat s) (fun s t hs ht => sols_lex hk.1 hk.2.1 hj (fun i hi => firstOpen_before q.2 i hi) hs ht) f1 f2
          rcases this with ⟨a1, a2, a3⟩ | ⟨⟨a1, a3⟩, a2⟩
          · exact .inl ⟨a1, a2, fun s h => a3 s ((hs' s).1 h)⟩
          · exact .inr ⟨⟨(hs' _).2 a1, fun t h => a3 t ((hs' t).1 h)⟩, a2⟩
    · rw [if_neg e1]
      exact ⟨b, l, rfl, .inl ⟨rfl, rfl, fun s h => absurd ((hs s).1 h).1 e1⟩⟩
/-- The solutions of a problem. -/
def Good (p0 : List Int) (p1 : List S43) (s : List Bool) : Prop := s.length = p0.length ∧ Sol p1 s
/-- What Solve is to answer of a valid problem. -/
def Answer (p0 : List Int) (p1 : List S43) (r : List Bool × Int × Int) : Prop := (r = ([], 0, 16) ∧ ∀ s, ¬ Good p0 p1 s) ∨ ∃ s, First p0 (Good p0 p1) s ∧ r = (s, costZ p0 s, 0)
theorem solve_eq (hc : (chk p0 p1).2 = 0) : ∃ r, ilp_Solve.f p0 p1 = some r ∧ Answer p0 p1 r := by
  have hco := hF.costs
  have hl := hV.len
  unfold ilp_Solve.f
  rw [check_eq p0 p1 hF _ (by omega), Option.bind_some, if_pos hc, if_neg (by omega)]
  have ht : Tri (List.replicate p0.length (-1 : Int)) := fun v h0 h1 => .inl (by
    simp only [List.length_replicate] at h1
    have : v.toNat < p0.length := by omega
    simp [rd, List.getD_eq_getElem?_getD, this])
  obtain ⟨b, l, h1, h2⟩ := srch_ok p0 p1 hF hV 100 (List.replicate p0.length (-1)) [] (-1) (by simp) ht (by have := opens_le (List.replicate p0.length (-1 : Int)); rw [List.length_replicate] at this; omega)
  have hall : ∀ s, Good p0 p1 s → Sols p0 p1 (List.replicate p0.length (-1)) s := fun s h => ⟨h.1, h.2, fun v h0 h1 => by
    rcases ht v h0 h1 with e | e | e
    · exact ⟨fun h => by omega, fun h => by omega⟩
    · have hv : v.toNat < p0.length := by simp only [List.length_replicate] at h1; omega
      simp [rd, List.getD_eq_getElem?_getD, hv] at e
    · have hv : v.toNat < p0.length := by simp only [List.length_replicate] at h1; omega
      simp [rd, List.getD_eq_getElem?_getD, hv] at e⟩
  rw [h1, Option.bind_some]
  rcases h2 with ⟨rfl, rfl, h2⟩ | ⟨f, e, _⟩
  · exact ⟨_, rfl, .inl ⟨rfl, fun s h => by have := h2 s (hall s h); omega⟩⟩
  · have := (costZ_range (s := b) hV.costs).1
    rw [if_neg (show ¬ (b, l).2 < 0 by simp only; omega)]
    exact ⟨_, rfl, .inr ⟨b, ⟨⟨f.1.1, f.1.2.1⟩, fun t h => f.2 t (hall t h)⟩, by rw [e]⟩⟩
end
end Go.Proofs.Ytiigmklolapckaa.Plain
