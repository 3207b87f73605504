/- Independent problems side by side, in plain lists; the law Large. No condition. -/
import Derived.Test.YtiigmklolapckaaPlain9
import Derived.Test.YtiigmklolapckaaQAllx17
namespace Go.Proofs.Ytiigmklolapckaa.Plain
open Go.RowKit Go.Proofs.YtiigmklolapckaaW.PrintWords Go.Proofs.YtiigmklolapckaaW.PrintLast Go.Proofs.YtiigmklolapckaaW.PrintMore Go.Proofs.Ytiigmklolapckaa.QAll
set_option linter.unusedVariables false

/-! ### valid problems pass the check -/
theorem rowErr_ok {cs : List S45} {least vars : Int} (h1 : cs.length ≤ 64) (h2 : ∀ c ∈ cs, ¬ badC vars c) (h3 : ¬ (least < -1099511627776 ∨ 1099511627776 < least)) (h4 : dupF cs [] = false) : rowErr cs least vars = 0 := by
  unfold rowErr
  rw [if_neg (by omega), scan_eq, if_neg (by rintro ⟨c, hc, hb⟩; exact h2 c hc hb)]
  simp only [Bool.false_or]
  rw [if_neg h3, h4]
  rfl
theorem rowErr_ne16 (cs : List S45) (least vars : Int) : rowErr cs least vars ≠ 16 := by
  unfold rowErr
  rw [scan_eq]
  repeat' split
  all_goals simp
theorem chkRows_ne16 (vars : Int) : ∀ (l : List S43) (i : Nat), (chkRows vars l i).2 ≠ 16
  | [], _ => by simp [chkRows]
  | r :: rs, i => by
    unfold chkRows
    split
    · exact chkRows_ne16 vars rs (i + 1)
    · exact rowErr_ne16 _ _ _
theorem chk_ne16 (p0 : List Int) (p1 : List S43) : (chk p0 p1).2 ≠ 16 := by
  unfold chk
  split
  · simp
  · split
    · simp
    · cases hc : chkCosts p0 0 with
      | none => exact chkRows_ne16 _ _ _
      | some e => have := chkCosts_bad hc; simp only [Option.getD_some]; omega
theorem chkCosts_none : ∀ {l : List Int} (i : Nat), (∀ c ∈ l, 0 ≤ c ∧ c ≤ 1099511627776) → chkCosts l i = none
  | [], _, _ => rfl
  | c :: cs, i, h => by
    have := h c List.mem_cons_self
    unfold chkCosts
    rw [if_neg (by omega), if_neg (by omega)]
    exact chkCosts_none (i + 1) (fun c hc => h c (List.mem_cons_of_mem _ hc))
theorem chkRows_zero {vars : Int} : ∀ {l : List S43} (i : Nat), (∀ r ∈ l, rowErr r.f0 r.f1 vars = 0) → chkRows vars l i = (0, 0)
  | [], _, _ => rfl
  | r :: rs, i, h => by
    unfold chkRows
    rw [if_pos (h r List.mem_cons_self)]
    exact chkRows_zero (i + 1) (fun r hr => h r (List.mem_cons_of_mem _ hr))
theorem Valid.chk {p0 : List Int} {p1 : List S43} (h : Valid p0 p1) (hr : p1.length ≤ 1024) : (chk p0 p1).2 = 0 := by
  have := h.len
  unfold Plain.chk
  rw [if_neg (by omega), if_neg (by omega), chkCosts_none 0 h.costs, Option.getD_none, chkRows_zero 0 h.rows]
/-! ### a problem behind another -/
/-- A coefficient of a variable n places further on. -/
def shiftC (n : Nat) (c : S45) : S45 := ⟨c.f0 + n, c.f1⟩
def shiftR (n : Nat) (r : S43) : S43 := ⟨r.f0.map (shiftC n), r.f1⟩
theorem dupF_shift (n : Nat) : ∀ (cs : List S45) (seen : List Int), dupF (cs.map (shiftC n)) (seen.map (· + (n : Int))) = dupF cs seen
  | [], _ => rfl
  | c :: cs, seen => by
    have ih := dupF_shift n cs (c.f0 :: seen)
    simp only [List.map_cons, dupF] at ih ⊢
    rw [show (shiftC n c).f0 = c.f0 + (n : Int) from rfl, ih]
    congr 1
    rw [Bool.eq_iff_iff]
    simp only [List.contains_iff_mem, List.mem_map]
    constructor
    · rintro ⟨a, ha, e⟩; have : a = c.f0 := by omega
      rwa [← this]
    · intro h; exact ⟨c.f0, h, rfl⟩
theorem Valid.join {C D : List Int} {R S : List S43} (hC : Valid C R) (hD : Valid D S) (hl : C.length + D.length ≤ 64) : Valid (C ++ D) (R ++ S.map (shiftR C.length)) := by
  refine ⟨fun c hc => ?_, fun r hr => ?_, by rw [List.length_append]; exact hl⟩
  · rcases List.mem_append.1 hc with h | h
    · exact hC.costs c h
    · exact hD.costs c h
  · rw [List.length_append]
    rcases List.mem_append.1 hr with h | h
    · obtain ⟨h1, h2, h3, h4⟩ := row_ok (hC.rows r h)
      refine rowErr_ok h4 (fun c hc => ?_) h2 h3
      have := h1 c hc
      simp only [badC, not_or] at this ⊢
      push_cast
      omega
    · obtain ⟨r0, h0, rfl⟩ := List.mem_map.1 h
      obtain ⟨h1, h2, h3, h4⟩ := row_ok (hD.rows r0 h0)
      refine rowErr_ok (by simp only [shiftR, List.length_map]; exact h4) (fun c hc => ?_) h2 (by
        have := dupF_shift C.length r0.f0 []
        rw [List.map_nil] at this
        simp only [shiftR]
        rw [this]; exact h3)
      simp only [shiftR, List.mem_map] at hc
      obtain ⟨c0, hc, rfl⟩ := hc
      have := h1 c0 hc
      simp only [badC, not_or, shiftC] at this ⊢
      push_cast
      omega
theorem rdOf_left {s t : List Bool} {v : Int} (h0 : 0 ≤ v) (h1 : v < s.length) : rdOf false (s ++ t) v = rdOf false s v := by
  have : v.toNat < s.length := by omega
  simp [rdOf, List.getD_eq_getElem?_getD, List.getElem?_append_left this]
theorem rdOf_right {s t : List Bool} {v : Int} (h0 : 0 ≤ v) : rdOf false (s ++ t) (v + s.length) = rdOf false t v := by
  have e : (v + (s.length : Int)).toNat = s.length + v.toNat := by omega
  simp [rdOf, List.getD_eq_getElem?_getD, e, List.getElem?_append_right]
theorem sum_left {s t : List Bool} : ∀ {L : List S45}, (∀ c ∈ L, 0 ≤ c.f0 ∧ c.f0 < s.length) → sumZ L (s ++ t) = sumZ L s
  | [], _ => rfl
  | c :: cs, h => by
    have h0 := h c List.mem_cons_self
    simp only [sumZ]
    rw [rdOf_left h0.1 h0.2, sum_left (fun c hc => h c (List.mem_cons_of_mem _ hc))]
theorem sum_right {s t : List Bool} : ∀ {L : List S45}, (∀ c ∈ L, 0 ≤ c.f0) → sumZ (L.map (shiftC s.length)) (s ++ t) = sumZ L t
  | [], _ => rfl
  | c :: cs, h => by
    have h0 := h c List.mem_cons_self
    simp only [List.map_cons, sumZ, shiftC]
    rw [rdOf_right h0]
    have := sum_right (s := s) (t := t) (fun c hc => h c (List.mem_cons_of_mem _ hc))
    rw [this]
theorem cost_append : ∀ {C D : List Int} {s t : List Bool}, s.length = C.length → costZ (C ++ D) (s ++ t) = costZ C s + costZ D t
  | [], D, s, t, h => by
    have : s = [] := List.length_eq_zero_iff.1 h
    subst this
    simp [costZ]
  | c :: C, D, [], t, h => by simp at h
  | c :: C, D, b :: s, t, h => by
    have ih := cost_append (C := C) (D := D) (s := s) (t := t) (by simpa using h)
    simp only [List.cons_append, costZ]
    rw [ih]; omega
theorem lex_left {t u : List Bool} : ∀ {s v : List Bool}, Lex s v → Lex (s ++ t) (v ++ u)
  | [], _, h => h.elim
  | _ :: _, [], h => h.elim
  | a :: s, b :: v, h => by
    rcases h with h | ⟨h1, h2⟩
    · exact .inl h
    · exact .inr ⟨h1, lex_left h2⟩
theorem lex_right {t u : List Bool} (h : Lex t u) : ∀ s : List Bool, Lex (s ++ t) (s ++ u)
  | [] => h
  | a :: s => .inr ⟨rfl, lex_right h s⟩
section
variable {C D : List Int} {R S : List S43} (hC : Valid C R) (hD : Valid D S)
include hC hD
theorem good_join {s t : List Bool} (hs : s.length = C.length) : Good (C ++ D) (R ++ S.map (shiftR C.length)) (s ++ t) ↔ Good C R s ∧ Good D S t := by
  have hsum1 : ∀ r ∈ R, sumZ r.f0 (s ++ t) = sumZ r.f0 s := fun r hr => sum_left (fun c hc => by have := hC.var hr hc; omega)
  have hsum2 : ∀ r ∈ S, sumZ (shiftR C.length r).f0 (s ++ t) = sumZ r.f0 t := fun r hr => by
    rw [← hs]; exact sum_right (fun c hc => (hD.var hr hc).1)
  unfold Good
  rw [List.length_append, List.length_append]
  constructor
  · rintro ⟨h1, h2⟩
    refine ⟨⟨hs, fun r hr => ?_⟩, by omega, fun r hr => ?_⟩
    · have := h2 r (List.mem_append_left _ hr)
      rwa [hsum1 r hr] at this
    · have := h2 _ (List.mem_append_right _ (List.mem_map_of_mem hr))
      rwa [hsum2 r hr] at this
  · rintro ⟨⟨_, h1⟩, h2, h3⟩
    refine ⟨by omega, fun r hr => ?_⟩
    rcases List.mem_append.1 hr with hr | hr
    · rw [hsum1 r hr]; exact h1 r hr
    · obtain ⟨r0, hr0, rfl⟩ := List.mem_map.1 hr
      rw [hsum2 r0 hr0]; exact h3 r0 hr0
theorem good_cut {u : List Bool} (h : Good (C ++ D) (R ++ S.map (shiftR C.length)) u) : ∃ s t, u = s ++ t ∧ Good C R s ∧ Good D S t := by
  have hl : (u.take C.length).length = C.length := by rw [List.length_take, h.1, List.length_append]; omega
  refine ⟨u.take C.length, u.drop C.length, (List.take_append_drop _ _).symm, ?_⟩
  rw [← good_join hC hD hl, List.take_append_drop]
  exact h
theorem first_join {s t : List Bool} (hs : First C (Good C R) s) (ht : First D (Good D S) t) : First (C ++ D) (Good (C ++ D) (R ++ S.map (shiftR C.length))) (s ++ t) := by
  refine ⟨(good_join hC hD hs.1.1).2 ⟨hs.1, ht.1⟩, fun u hu => ?_⟩
  obtain ⟨s2, t2, rfl, g1, g2⟩ := good_cut hC hD hu
  rw [cost_append hs.1.1, cost_append g1.1]
  rcases hs.2 s2 g1 with h | ⟨h, h1⟩
  · rcases ht.2 t2 g2 with g | ⟨g, _⟩ <;> exact .inl (by omega)
  · rcases ht.2 t2 g2 with g | ⟨g, h2⟩
    · exact .inl (by omega)
    · refine .inr ⟨by omega, ?_⟩
      rcases h1 with rfl | h1
      · rcases h2 with rfl | h2
        · exact .inl rfl
        · exact .inr (lex_right h2 s)
      · exact .inr (lex_left h1)
end
/-! ### the law -/
/-- What the law knows of the problems so far. -/
structure Sofar (i : Nat) (C : List Int) (R : List S43) (want : List Bool) (cost : Int) (ok : Bool) : Prop where
  valid : Valid C R
  cols : C.length ≤ 6 * i
  rows : R.length ≤ 30 * i
  coefs : ∀ r ∈ R, r.f0.length ≤ 70
  len : want.length ≤ 6 * i
  yes : ok = true → First C (Good C R) want ∧ cost = costZ C want
  no : ok = false → ∀ s, ¬ Good C R s
theorem Sofar.few {i : Nat} {C : List Int} {R : List S43} {want : List Bool} {cost : Int} {ok : Bool} (h : Sofar i C R want cost ok) (hi : i ≤ 3) : Few 70 C R :=
  ⟨by have := h.cols; omega, by have := h.rows; omega, h.coefs⟩
theorem Sofar.next {i : Nat} {C : List Int} {R : List S43} {want : List Bool} {cost : Int} {ok : Bool} (h : Sofar i C R want cost ok) (hi : i ≤ 2) {D : List Int} {S : List S43} (hF : Few 6 D S) (hS : S.length ≤ 30) (hD : Valid D S) {x : List Bool} {n e : Int} (ha : Answer D S (x, n, e)) :
    Sofar (i + 1) (C ++ D) (R ++ S.map (shiftR C.length)) (want ++ x) (wrap64 (cost + n)) (if ok = true then (e == 0) else false) := by
  have h1 := h.cols
  have h2 := h.rows
  have h3 := hF.costs
  have h4 := h.len
  refine ⟨h.valid.join hD (by omega), by rw [List.length_append]; omega, by rw [List.length_append, List.length_map]; omega, fun r hr => ?_, ?_, fun hok => ?_, fun hok s hg => ?_⟩
  · rcases List.mem_append.1 hr with hr | hr
    · exact h.coefs r hr
    · obtain ⟨r0, hr0, rfl⟩ := List.mem_map.1 hr
      simp only [shiftR, List.length_map]
      exact hF.coefs r0 hr0
  · rw [List.length_append]
    rcases ha with ⟨e, _⟩ | ⟨s, f, e⟩
    · cases e; simp; omega
    · cases e; rw [f.1.1]; omega
  · by_cases eo : ok = true
    · rw [if_pos eo] at hok
      rcases ha with ⟨e, _⟩ | ⟨s, f, e⟩
      · cases e; simp at hok
      · cases e
        obtain ⟨y1, y2⟩ := h.yes eo
        have c1 := costZ_range (s := want) h.valid.costs
        have c2 := costZ_range (s := x) hD.costs
        refine ⟨first_join h.valid hD y1 f, ?_⟩
        rw [cost_append y1.1.1, y2, wrap_id (by omega) (by omega)]
    · rw [if_neg eo] at hok; cases hok
  · obtain ⟨s1, t1, rfl, g1, g2⟩ := good_cut h.valid hD hg
    by_cases eo : ok = true
    · rw [if_pos eo] at hok
      rcases ha with ⟨e, hn⟩ | ⟨s, f, e⟩
      · exact hn t1 g2
      · cases e; simp at hok
    · exact h.no (Bool.eq_false_iff.2 eo) s1 g1
section
variable (l : List S25) (want x : List Bool) (cost n : Int) (ok : Bool) (i : Nat) (C : List Int)
/-- The coefficients of a row are taken over. -/
theorem large_l2 (hi : i < l.length) (hi3 : i ≤ 2) (hCl : C.length ≤ 18) (q : Nat) (hq : q < (rd_T25 l (i : Int)).f1.length) (hq30 : q ≤ 100) (L : List S45) (hL : (rd_T43 (rd_T25 l (i : Int)).f1 (q : Int)).f0 = L) (hL70 : L.length ≤ 70) (hv : ∀ c ∈ L, 0 ≤ c.f0 ∧ c.f0 ≤ 100) (least : Int) (R : List S43) (hR30 : R.length ≤ 1000) (K0 : Nat) (Z : Bool)
    (hR : ∀ k, K0 ≤ k → saturatelaw41_IlpLarge.l1 k l want cost ok (i : Int) x n ((q + 1 : Nat) : Int) C (R ++ [⟨L.map (shiftC C.length), least⟩]) = some Z) :
    ∀ (m j k : Nat), j + m = L.length → K0 + m < k → saturatelaw41_IlpLarge.l2 k l want cost ok (i : Int) x n (q : Int) (j : Int) C R ((L.take j).map (shiftC C.length)) least = some Z := by
  intro m
  induction m with
  | zero =>
    intro j k hj hk
    obtain ⟨k, rfl, hk⟩ := fuel hk
    simp only [saturatelaw41_IlpLarge.l2]
    rw [if_pos (by omega), if_pos (by omega), if_pos (by omega), if_pos (by omega), hL, if_neg (by omega), if_pos (by omega), wrap_nat q (by omega), List.take_of_length_le (by omega)]
    exact hR k (by omega)
  | succ m ih =>
    intro j k hj hk
    obtain ⟨k, rfl, hk⟩ := fuel hk
    have hjl : j < L.length := by omega
    have hm := hv _ (rd45_mem hjl)
    simp only [saturatelaw41_IlpLarge.l2]
    rw [if_pos (by omega), if_pos (by omega), if_pos (by omega), if_pos (by omega), hL, if_pos (by omega), if_pos (by omega), if_pos (by rw [List.length_map, List.length_take]; omega), wrap_nat j (by omega), wrap_id (by omega) (by omega)]
    have e : (L.take j).map (shiftC C.length) ++ [(⟨(rd_T45 L (j : Int)).f0 + (C.length : Int), (rd_T45 L (j : Int)).f1⟩ : S45)] = (L.take (j + 1)).map (shiftC C.length) := by
      have e : rd_T45 L (j : Int) = L[j] := by simp [rd_T45, List.getD_eq_getElem?_getD, List.getElem?_eq_getElem hjl]
      rw [List.take_succ_eq_append_getElem hjl, List.map_append, e]
      rfl
    rw [e]
    exact ih (j + 1) k (by omega) (by omega)
/-- The rows of a problem are taken over. -/
theorem large_l1 (hi : i < l.length) (hi3 : i ≤ 2) (hCl : C.length ≤ 18) (hw : want.length ≤ 100) (hx : x.length ≤ 100) (hF : Few 6 (rd_T25 l (i : Int)).f0 (rd_T25 l (i : Int)).f1) (hV : Valid (rd_T25 l (i : Int)).f0 (rd_T25 l (i : Int)).f1) (R : List S43) (hR30 : R.length ≤ 100) (K0 : Nat) (Z : Bool)
    (hR : ∀ k, K0 ≤ k → saturatelaw41_IlpLarge.l0 k l (want ++ x) (wrap64 (cost + n)) ok ((i + 1 : Nat) : Int) (C ++ (rd_T25 l (i : Int)).f0) (R ++ (rd_T25 l (i : Int)).f1.map (shiftR C.length)) = some Z) :
    ∀ (m q k : Nat), q + m = (rd_T25 l (i : Int)).f1.length → K0 + m * 80 < k → saturatelaw41_IlpLarge.l1 k l want cost ok (i : Int) x n (q : Int) C (R ++ ((rd_T25 l (i : Int)).f1.take q).map (shiftR C.length)) = some Z := by
  have hr := hF.rows
  have hco := hF.costs
  intro m
  induction m with
  | zero =>
    intro q k hq hk
    obtain ⟨k, rfl, hk⟩ := fuel hk
    simp only [saturatelaw41_IlpLarge.l1]
    rw [if_pos (by omega), if_pos (by omega), if_neg (by omega), if_pos (by omega), if_pos (by omega), wrap_nat i (by omega), List.take_of_length_le (by omega)]
    exact hR k (by omega)
  | succ m ih =>
    intro q k hq hk
    obtain ⟨k, rfl, hk⟩ := fuel hk
    have hql : q < (rd_T25 l (i : Int)).f1.length := by omega
    have hm := rd43_mem hql
    have hcf := hF.coefs _ hm
    simp only [saturatelaw41_IlpLarge.l1]
    rw [if_pos (by omega), if_pos (by omega), if_pos (by omega), if_pos (by omega)]
    refine large_l2 l want x cost n ok i C hi hi3 hCl q hql (by omega) _ rfl hcf (fun c hc => by have := hV.var hm hc; omega) _ _ (by rw [List.length_append, List.length_map, List.length_take]; omega) (K0 + m * 80 + 1) Z (fun k hk => ?_) _ 0 k (Nat.zero_add _) (by omega)
    have e : R ++ ((rd_T25 l (i : Int)).f1.take q).map (shiftR C.length) ++ [(⟨(rd_T43 (rd_T25 l (i : Int)).f1 (q : Int)).f0.map (shiftC C.length), (rd_T43 (rd_T25 l (i : Int)).f1 (q : Int)).f1⟩ : S43)] = R ++ ((rd_T25 l (i : Int)).f1.take (q + 1)).map (shiftR C.length) := by
      have e : rd_T43 (rd_T25 l (i : Int)).f1 (q : Int) = (rd_T25 l (i : Int)).f1[q] := by simp [rd_T43, List.getD_eq_getElem?_getD, List.getElem?_eq_getElem hql]
      rw [List.take_succ_eq_append_getElem hql, List.map_append, e, List.append_assoc]
      rfl
    rw [e]
    exact ih (q + 1) k (by omega) (by omega)
end
theorem few_rows (n : Int) (p0 : List Int) (p1 : List S43) (k : Nat) (h : saturatelaw41_few.f k p0 p1 n = some true) : p1.length ≤ 30 := by
  apply Classical.byContradiction
  intro hn
  unfold saturatelaw41_few.f at h
  by_cases h0 : (p0.length : Int) > n
  · rw [if_pos h0] at h
    cases k with
    | zero => simp [saturatelaw41_few.j0] at h
    | succ k => simp [saturatelaw41_few.j0] at h
  · rw [if_neg h0, decide_eq_true (by omega)] at h
    cases k with
    | zero => simp [saturatelaw41_few.j0] at h
    | succ k => simp [saturatelaw41_few.j0] at h
set_option maxRecDepth 100000 in
theorem large_l0 (l : List S25) (hl : l.length ≤ 3) : ∀ (m i k : Nat) (want : List Bool) (cost : Int) (ok : Bool) (C : List Int) (R : List S43), i + m = l.length → m * 3000 + 30000 < k → Sofar i C R want cost ok →
    saturatelaw41_IlpLarge.l0 k l want cost ok (i : Int) C R = some true := by
  intro m
  induction m with
  | zero =>
    intro i k want cost ok C R hi hk h
    obtain ⟨k, rfl, hk⟩ := fuel hk
    have hF := h.few (by omega)
    have hlen := h.len
    have hrw := h.rows
    obtain ⟨r, h1, h2⟩ := solve_eq C R hF h.valid (h.valid.chk (by omega))
    simp only [saturatelaw41_IlpLarge.l0]
    rw [if_neg (by omega), h1, Option.bind_some, lives_eq k (by omega)]
    by_cases e : ok = true
    · obtain ⟨y1, y2⟩ := h.yes e
      have := h2.unique (.inr ⟨want, y1, rfl⟩ : Answer C R (want, costZ C want, 0))
      rw [if_pos e, this, if_pos rfl, if_pos y2.symm, bsame_eq want (by omega) k (by omega)]
      rfl
    · have := h2.unique (.inl ⟨rfl, h.no (Bool.eq_false_iff.2 e)⟩ : Answer C R ([], 0, 16))
      rw [if_neg e, this, if_pos rfl, if_pos (by simp), if_pos rfl]
      rfl
  | succ m ih =>
    intro i k want cost ok C R hi hk h
    obtain ⟨k, rfl, hk⟩ := fuel hk
    have hlv := lives_eq k (by omega)
    have hcl := h.cols
    have hrl := h.rows
    have hwl := h.len
    simp only [saturatelaw41_IlpLarge.l0]
    obtain ⟨b, e, hF⟩ := few_eq 6 (by omega) (rd_T25 l (i : Int)).f0 (rd_T25 l (i : Int)).f1 k (by omega)
    rw [show ((6 : Nat) : Int) = 6 from rfl] at e
    rw [if_pos (by omega), if_pos (by omega), e, Option.bind_some]
    by_cases hb : b = true
    · subst hb
      have h30 := few_rows _ _ _ _ e
      have hF := hF rfl
      have hco := hF.costs
      obtain ⟨⟨x, n, er⟩, h1, h2, h3⟩ := rsolve_eq (rd_T25 l (i : Int)).f0 (rd_T25 l (i : Int)).f1 (hF.mono (by omega)) (by omega) k (by omega)
      rw [if_pos rfl, h1, Option.bind_some]
      obtain ⟨k, rfl, hk⟩ := fuel (show m * 3000 + 32990 < k by omega)
      have hlv := lives_eq k (by omega)
      by_cases hc : (chk (rd_T25 l (i : Int)).f0 (rd_T25 l (i : Int)).f1).2 = 0
      · have ha := h2 hc
        have hV := chk_ok hc
        have hx : x.length ≤ 100 := by
          rcases ha with ⟨e, _⟩ | ⟨s, f, e⟩
          · cases e; simp
          · cases e; rw [f.1.1]; omega
        obtain ⟨k, rfl, hk⟩ := fuel (show m * 3000 + 32980 < k by omega)
        have hnx := h.next (by omega) hF h30 hV ha
        have hgo : saturatelaw41_IlpLarge.l1 k l want cost (if ok = true then (er == 0) else false) (i : Int) x n 0 C R = some true := by
          have h0 := large_l1 l want x cost n (if ok = true then (er == 0) else false) i C (by omega) (by omega) (by omega) (by omega) hx hF hV R (by omega) (m * 3000 + 30001) true
            (fun k hk => ih (i + 1) k _ _ _ _ _ (by omega) (by omega) hnx) (rd_T25 l (i : Int)).f1.length 0 k (Nat.zero_add _) (by omega)
          rw [List.take_zero, List.map_nil, List.append_nil] at h0
          exact h0
        have hj : saturatelaw41_IlpLarge.j1 (k + 1 + 1) l want cost ok (i : Int) x n er false C R = some true := by
          simp only [saturatelaw41_IlpLarge.j1, saturatelaw41_IlpLarge.j2]
          rw [if_neg (by simp)]
          by_cases eo : ok = true
          · rw [if_pos eo] at hgo ⊢; exact hgo
          · rw [if_neg eo] at hgo ⊢; exact hgo
        by_cases er0 : er = 0
        · rw [if_pos er0]; exact hj
        · have e16 : (er != 16) = false := by
            rcases ha with ⟨e, _⟩ | ⟨s, f, e⟩
            · cases e; rfl
            · cases e; exact absurd rfl er0
          rw [if_neg er0]
          simp only
          rw [e16]; exact hj
      · have hr := h3 hc
        cases hr
        have h16 := chk_ne16 (rd_T25 l (i : Int)).f0 (rd_T25 l (i : Int)).f1
        rw [if_neg hc]
        simp only [saturatelaw41_IlpLarge.j1]
        rw [if_pos (by simpa using h16), hlv]
        rfl
    · rw [if_neg hb, hlv]; rfl
/-- The law Large. -/
theorem Large (l : List S25) : saturatelaw41_IlpLarge.f 50000 l = some true := by
  unfold saturatelaw41_IlpLarge.f
  by_cases h : l.length ≤ 3
  · rw [if_neg (by omega)]
    refine large_l0 l h l.length 0 50000 [] 0 true [] [] (by omega) (by omega) ⟨⟨by simp, by simp, by simp⟩, by simp, by simp, by simp, by simp, fun _ => ⟨⟨⟨rfl, by simp [Sol]⟩, fun t ht => .inr ⟨?_, .inl ?_⟩⟩, rfl⟩, fun h => by cases h⟩
    · simp [costZ]
    · exact (List.length_eq_zero_iff.1 ht.1).symm
  · rw [if_pos (by omega), lives_eq 50000 (by omega)]
    rfl
end Go.Proofs.Ytiigmklolapckaa.Plain
