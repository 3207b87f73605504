/- The union-find in plain lists: labels, parents and trail that follow from a list of operations; what the object's functions and the reference's functions compute on them. No condition. -/
import Derived.Test.YtdjgnoofdhjicaaRoots
namespace Go.Proofs.Ytdjgnoofdhjicaa.UF
open Go.RowKit Go.Proofs.YtdjgnoofdhjicaaW.PrintWords Go.Proofs.YtdjgnoofdhjicaaW.PrintLast Go.Proofs.YtdjgnoofdhjicaaW.PrintMore Go.Proofs.Ytdjgnoofdhjicaa.QAll
set_option linter.unusedVariables false

theorem snoc_ind {α : Type} {motive : List α → Prop} (nil : motive []) (snoc : ∀ l a, motive l → motive (l ++ [a])) (l : List α) : motive l := by
  have h : ∀ m : List α, motive m.reverse := by
    intro m
    induction m with
    | nil => exact nil
    | cons a m ih => rw [List.reverse_cons]; exact snoc _ _ ih
  have := h l.reverse
  rwa [List.reverse_reverse] at this
theorem rd_nat (L : List Int) (i : Nat) (h : i < L.length) : rd L (i : Int) = L[i] := by simp [rd, List.getD_eq_getElem?_getD, List.getElem?_eq_getElem h]
theorem rd_app (L : List Int) (v i : Int) (h0 : 0 ≤ i) (h1 : i < L.length) : rd (L ++ [v]) i = rd L i := by
  obtain ⟨n, rfl⟩ := Int.eq_ofNat_of_zero_le h0
  rw [rd_nat L n (by omega), rd_nat _ n (by simp; omega), List.getElem_append_left]
theorem rd_last (L : List Int) (v : Int) : rd (L ++ [v]) (L.length : Int) = v := by simp [rd]
theorem rd_map (f : Int → Int) (L : List Int) (i : Int) (h0 : 0 ≤ i) (h1 : i < L.length) : rd (L.map f) i = f (rd L i) := by
  obtain ⟨n, rfl⟩ := Int.eq_ofNat_of_zero_le h0
  rw [rd_nat L n (by omega), rd_nat _ n (by simp; omega), List.getElem_map]
theorem rd_set (L : List Int) (j v i : Int) (j0 : 0 ≤ j) (j1 : j < L.length) (h0 : 0 ≤ i) (h1 : i < L.length) : rd (L.set j.toNat v) i = if i = j then v else rd L i := by
  obtain ⟨n, rfl⟩ := Int.eq_ofNat_of_zero_le h0
  obtain ⟨m, rfl⟩ := Int.eq_ofNat_of_zero_le j0
  rw [Int.toNat_natCast, rd_nat L n (by omega), rd_nat _ n (by simp; omega), List.getElem_set]
  by_cases e : m = n
  · subst e; simp
  · rw [if_neg e, if_neg (by omega)]
theorem ext_rd {L M : List Int} (hl : L.length = M.length) (h : ∀ i : Int, 0 ≤ i → i < L.length → rd L i = rd M i) : L = M := by
  refine List.ext_getElem hl (fun n h1 h2 => ?_)
  have := h n (by omega) (by omega)
  rwa [rd_nat L n h1, rd_nat M n h2] at this

/-- One operation: the labels, the parents, the trail. -/
def st1 (s : List Int × List Int × List S53) (o : S56) : List Int × List Int × List S53 :=
  if o.f0 = true then (s.1 ++ [(s.1.length : Int)], s.2.1 ++ [(s.2.1.length : Int)], s.2.2 ++ [⟨true, s.2.1.length⟩])
  else (s.1.map (fun v => if v = mx (rd s.1 o.f1) (rd s.1 o.f2) then mn (rd s.1 o.f1) (rd s.1 o.f2) else v), s.2.1.set (mx (rd s.1 o.f1) (rd s.1 o.f2)).toNat (mn (rd s.1 o.f1) (rd s.1 o.f2)), s.2.2 ++ [⟨false, mx (rd s.1 o.f1) (rd s.1 o.f2)⟩])
def stt (l : List S56) : List Int × List Int × List S53 := l.foldl st1 ([], [], [])
def lab (l : List S56) : List Int := (stt l).1
def par (l : List S56) : List Int := (stt l).2.1
def trl (l : List S56) : List S53 := (stt l).2.2
theorem stt_snoc (l : List S56) (o : S56) : stt (l ++ [o]) = st1 (stt l) o := by simp [stt]
def okOp (L : List Int) (o : S56) : Prop := o.f0 = true ∨ (o.f0 = false ∧ 0 ≤ o.f1 ∧ o.f1 < L.length ∧ 0 ≤ o.f2 ∧ o.f2 < L.length ∧ rd L o.f1 ≠ rd L o.f2)
def Ok (l : List S56) : Prop := ∀ (l1 : List S56) (o : S56) (l2 : List S56), l = l1 ++ o :: l2 → okOp (lab l1) o
theorem Ok.nil : Ok [] := fun l1 o l2 h => by simp at h
theorem Ok.pre {l m : List S56} (h : Ok (l ++ m)) : Ok l := fun l1 o l2 e => h l1 o (l2 ++ m) (by rw [e]; simp)
theorem Ok.take {l : List S56} (h : Ok l) (n : Nat) : Ok (l.take n) := Ok.pre (m := l.drop n) (by rwa [List.take_append_drop])
theorem Ok.last {l : List S56} {o : S56} (h : Ok (l ++ [o])) : okOp (lab l) o := h l o [] (by simp)
theorem Ok.snoc {l : List S56} {o : S56} (h : Ok l) (ho : okOp (lab l) o) : Ok (l ++ [o]) := by
  intro l1 o1 l2 e
  rcases List.eq_nil_or_concat l2 with rfl | ⟨m, x, rfl⟩
  · obtain ⟨rfl, e2⟩ := List.append_inj' e rfl
    injection e2 with e2
    subst e2; exact ho
  · have e' : l ++ [o] = (l1 ++ o1 :: m) ++ [x] := by rw [e]; simp
    obtain ⟨rfl, _⟩ := List.append_inj' e' rfl
    exact h l1 o1 m rfl

structure Inv (L P : List Int) : Prop where
  len : P.length = L.length
  lo : ∀ i : Int, 0 ≤ i → i < L.length → 0 ≤ rd L i ∧ rd L i ≤ i
  idem : ∀ i : Int, 0 ≤ i → i < L.length → rd L (rd L i) = rd L i
  par : ∀ i : Int, 0 ≤ i → i < L.length → 0 ≤ rd P i ∧ rd P i ≤ i
  lpar : ∀ i : Int, 0 ≤ i → i < L.length → rd L (rd P i) = rd L i
  fix : ∀ i : Int, 0 ≤ i → i < L.length → (rd P i = i ↔ rd L i = i)
theorem Inv.well {L P : List Int} (h : Inv L P) : Well P := fun i h0 h1 => h.par i h0 (by have := h.len; omega)
theorem Inv.make {L P : List Int} (h : Inv L P) : Inv (L ++ [(L.length : Int)]) (P ++ [(P.length : Int)]) := by
  have hl := h.len
  have key : ∀ i : Int, 0 ≤ i → i < ((L ++ [(L.length : Int)]).length : Nat) → (i < L.length ∧ rd (L ++ [(L.length : Int)]) i = rd L i ∧ rd (P ++ [(P.length : Int)]) i = rd P i) ∨ (i = L.length ∧ rd (L ++ [(L.length : Int)]) i = i ∧ rd (P ++ [(P.length : Int)]) i = i) := by
    intro i h0 h1
    rw [List.length_append, List.length_singleton] at h1
    by_cases hi : i < L.length
    · exact .inl ⟨hi, rd_app _ _ _ h0 hi, rd_app _ _ _ h0 (by omega)⟩
    · have e : i = L.length := by omega
      exact .inr ⟨e, by rw [e]; exact rd_last _ _, by rw [e, ← hl]; exact rd_last _ _⟩
  refine ⟨by simp [hl], fun i h0 h1 => ?_, fun i h0 h1 => ?_, fun i h0 h1 => ?_, fun i h0 h1 => ?_, fun i h0 h1 => ?_⟩
  · rcases key i h0 h1 with ⟨a, b, c⟩ | ⟨a, b, c⟩
    · rw [b]; exact h.lo i h0 a
    · rw [b]; omega
  · rcases key i h0 h1 with ⟨a, b, c⟩ | ⟨a, b, c⟩
    · have := h.lo i h0 a
      rw [b, rd_app _ _ _ this.1 (by omega)]; exact h.idem i h0 a
    · rw [b, b]
  · rcases key i h0 h1 with ⟨a, b, c⟩ | ⟨a, b, c⟩
    · rw [c]; exact h.par i h0 a
    · rw [c]; omega
  · rcases key i h0 h1 with ⟨a, b, c⟩ | ⟨a, b, c⟩
    · have := h.par i h0 a
      rw [b, c, rd_app _ _ _ this.1 (by omega)]; exact h.lpar i h0 a
    · rw [b, c, b]
  · rcases key i h0 h1 with ⟨a, b, c⟩ | ⟨a, b, c⟩
    · rw [b, c]; exact h.fix i h0 a
    · rw [b, c]
theorem Inv.join {L P : List Int} (h : Inv L P) (x y : Int) (x0 : 0 ≤ x) (x1 : x < L.length) (y0 : 0 ≤ y) (y1 : y < L.length) (hx : rd L x = x) (hy : rd L y = y) (hne : x ≠ y) :
    Inv (L.map (fun v => if v = mx x y then mn x y else v)) (P.set (mx x y).toNat (mn x y)) := by
  have hl := h.len
  obtain ⟨hi, lo, ehi, elo, hlt, l0, h1', rhi, rlo⟩ : ∃ hi lo, mx x y = hi ∧ mn x y = lo ∧ lo < hi ∧ 0 ≤ lo ∧ hi < L.length ∧ rd L hi = hi ∧ rd L lo = lo := by
    by_cases e : x < y
    · exact ⟨y, x, by unfold mx; rw [if_pos e], by unfold mn; rw [if_neg (by omega)], e, x0, y1, hy, hx⟩
    · exact ⟨x, y, by unfold mx; rw [if_neg e], by unfold mn; rw [if_pos (by omega)], by omega, y0, x1, hx, hy⟩
  rw [ehi, elo]
  have eL : ∀ i : Int, 0 ≤ i → i < L.length → rd (L.map (fun v => if v = hi then lo else v)) i = if rd L i = hi then lo else rd L i := fun i a b => rd_map _ L i a b
  have eP : ∀ i : Int, 0 ≤ i → i < L.length → rd (P.set hi.toNat lo) i = if i = hi then lo else rd P i := fun i a b => rd_set P hi lo i (by omega) (by omega) a (by omega)
  refine ⟨by simp [hl], fun i h0 h1 => ?_, fun i h0 h1 => ?_, fun i h0 h1 => ?_, fun i h0 h1 => ?_, fun i h0 h1 => ?_⟩
  all_goals rw [List.length_map] at h1
  all_goals have a1 := h.lo i h0 h1
  all_goals have a2 := h.par i h0 h1
  · rw [eL i h0 h1]; split <;> omega
  · rw [eL i h0 h1]
    split
    · rw [eL lo l0 (by omega), rlo, if_neg (by omega)]
    · rw [eL _ a1.1 (by omega), h.idem i h0 h1]; split <;> simp_all
  · rw [eP i h0 h1]; split <;> omega
  · rw [eP i h0 h1]
    split
    · rename_i e; subst e
      rw [eL lo l0 (by omega), eL i h0 h1, rlo, rhi]; simp
    · rw [eL _ a2.1 (by omega), eL i h0 h1, h.lpar i h0 h1]
  · rw [eP i h0 h1, eL i h0 h1]
    have a3 := h.fix i h0 h1
    by_cases e : i = hi
    · subst e; rw [if_pos rfl, rhi, if_pos rfl]
    · rw [if_neg e]
      by_cases e2 : rd L i = hi
      · rw [if_pos e2]
        constructor
        · intro e3; have := a3.1 e3; omega
        · intro e3; subst e3; rw [rlo] at e2; omega
      · rw [if_neg e2]; exact a3
theorem Inv.root {L P : List Int} (h : Inv L P) : ∀ (n : Nat) (y : Int), y.toNat ≤ n → 0 ≤ y → y < L.length → rt P y = rd L y := by
  intro n
  induction n with
  | zero =>
    intro y hn h0 h1
    have := h.par y h0 h1
    have e : rd P y = y := by omega
    rw [rt_end e]; exact ((h.fix y h0 h1).1 e).symm
  | succ n ih =>
    intro y hn h0 h1
    have := h.par y h0 h1
    by_cases e : rd P y = y
    · rw [rt_end e]; exact ((h.fix y h0 h1).1 e).symm
    · rw [rt_step h.well h0 (by have := h.len; omega) e, ih (rd P y) (by omega) this.1 (by omega), h.lpar y h0 h1]
/-- What the reference's Find returns. -/
def rfnd (L : List Int) (x : Int) : Int := if 0 ≤ x ∧ x < L.length then rd L x else -1
theorem Inv.find {L P : List Int} (h : Inv L P) (x : Int) : fnd P x = rfnd L x := by
  unfold fnd rfnd
  have hl := h.len
  by_cases hx : 0 ≤ x ∧ x < L.length
  · rw [if_pos hx, inB_yes hx.1 (by omega), if_pos rfl]; exact h.root x.toNat x (Nat.le_refl _) hx.1 hx.2
  · rw [if_neg hx, inB_no (by omega)]; rfl

theorem stt_inv {l : List S56} (h : Ok l) : Inv (lab l) (par l) := by
  induction l using snoc_ind with
  | nil => exact ⟨rfl, fun i a b => absurd b (by simp [lab, stt]; omega), fun i a b => absurd b (by simp [lab, stt]; omega), fun i a b => absurd b (by simp [lab, stt]; omega), fun i a b => absurd b (by simp [lab, stt]; omega), fun i a b => absurd b (by simp [lab, stt]; omega)⟩
  | snoc l o ih =>
    have i1 := ih h.pre
    unfold lab par
    rw [stt_snoc]
    unfold st1
    rcases h.last with e | ⟨e, a0, a1, b0, b1, hne⟩
    · rw [if_pos e]; exact i1.make
    · rw [if_neg (by rw [e]; simp)]
      have c1 := i1.lo o.f1 a0 a1
      have c2 := i1.lo o.f2 b0 b1
      exact i1.join (rd (lab l) o.f1) (rd (lab l) o.f2) c1.1 (by omega) c2.1 (by omega) (i1.idem _ a0 a1) (i1.idem _ b0 b1) hne
theorem lab_length_le (l : List S56) : (lab l).length ≤ l.length := by
  induction l using snoc_ind with
  | nil => simp [lab, stt]
  | snoc l o ih =>
    unfold lab at *
    rw [stt_snoc]; unfold st1
    split
    · simp; omega
    · simp; omega
theorem trl_length (l : List S56) : (trl l).length = l.length := by
  induction l using snoc_ind with
  | nil => simp [trl, stt]
  | snoc l o ih =>
    unfold trl at *
    rw [stt_snoc]; unfold st1
    split <;> simp [ih]
theorem trl_snoc (l : List S56) (o : S56) : ∃ s, trl (l ++ [o]) = trl l ++ [s] := by
  unfold trl
  rw [stt_snoc]; unfold st1
  split <;> exact ⟨_, rfl⟩
theorem pop_snoc {l : List S56} {o : S56} (h : Ok (l ++ [o])) : ∃ s, trl (l ++ [o]) = trl l ++ [s] ∧ pop1 (par (l ++ [o])) s = par l ∧ 0 ≤ s.f1 ∧ s.f1 < (par (l ++ [o])).length := by
  have i1 := stt_inv h.pre
  have hl := i1.len
  unfold trl par
  rw [stt_snoc]; unfold st1
  rcases h.last with e | ⟨e, a0, a1, b0, b1, hne⟩
  · rw [if_pos e]
    refine ⟨_, rfl, ?_, by simp, by simp; omega⟩
    simp [pop1]
  · rw [if_neg (by rw [e]; simp)]
    have c1 := i1.lo o.f1 a0 a1
    have c2 := i1.lo o.f2 b0 b1
    have hx := i1.idem _ a0 a1
    have hy := i1.idem _ b0 b1
    have hr : rd (lab l) (mx (rd (lab l) o.f1) (rd (lab l) o.f2)) = mx (rd (lab l) o.f1) (rd (lab l) o.f2) := by unfold mx; split <;> assumption
    have r0 : 0 ≤ mx (rd (lab l) o.f1) (rd (lab l) o.f2) := by unfold mx; split <;> omega
    have r1 : mx (rd (lab l) o.f1) (rd (lab l) o.f2) < (lab l).length := by unfold mx; split <;> omega
    refine ⟨_, rfl, ?_, r0, ?_⟩
    · unfold pop1
      rw [if_neg (by simp)]
      show ((par l).set (mx (rd (lab l) o.f1) (rd (lab l) o.f2)).toNat _).set (mx (rd (lab l) o.f1) (rd (lab l) o.f2)).toNat (mx (rd (lab l) o.f1) (rd (lab l) o.f2)) = par l
      generalize mx (rd (lab l) o.f1) (rd (lab l) o.f2) = m at *
      rw [List.set_set]
      refine ext_rd (by simp) (fun i h0 h1 => ?_)
      rw [List.length_set] at h1
      rw [rd_set _ _ _ _ r0 (by omega) h0 h1]
      split
      · rename_i e; subst e; exact ((i1.fix i h0 (by omega)).2 hr).symm
      · rfl
    · show mx (rd (lab l) o.f1) (rd (lab l) o.f2) < (((par l).set _ _).length : Nat)
      rw [List.length_set]; omega
theorem und_take : ∀ (n : Nat) (l : List S56), Ok l → n ≤ l.length → und (par l) (trl l) n = par (l.take (l.length - n)) ∧ Safe (par l) (trl l) n := by
  intro n
  induction n with
  | zero => intro l _ _; exact ⟨by simp [und], trivial⟩
  | succ n ih =>
    intro l h hn
    rcases List.eq_nil_or_concat l with rfl | ⟨m, o, rfl⟩
    · simp at hn
    · rw [List.concat_eq_append] at *
      obtain ⟨s, e1, e2, s0, s1⟩ := pop_snoc h
      rw [List.length_append, List.length_singleton] at hn
      obtain ⟨i1, i2⟩ := ih m h.pre (by omega)
      have e3 : (m ++ [o]).take ((m ++ [o]).length - (n + 1)) = m.take (m.length - n) := by
        rw [List.length_append, List.length_singleton, show m.length + 1 - (n + 1) = m.length - n by omega, List.take_append_of_le_length (by omega)]
      have g1 : (trl m ++ [s]).getLastD z53 = s := by simp [List.getLastD_eq_getLast?]
      rw [e1, e3]
      refine ⟨by rw [und_snoc, e2]; exact i1, ?_⟩
      refine ⟨by simp, by rw [g1]; exact s0, by rw [g1]; exact s1, ?_⟩
      rw [g1, e2]
      simpa using i2
theorem trl_take (l : List S56) (n : Nat) : trl (l.take n) = (trl l).take n := by
  induction l using snoc_ind generalizing n with
  | nil => simp [trl, stt]
  | snoc l o ih =>
    obtain ⟨s, e⟩ := trl_snoc l o
    by_cases hn : n ≤ l.length
    · rw [List.take_append_of_le_length hn, e, List.take_append_of_le_length (by rw [trl_length]; exact hn)]; exact ih n
    · rw [List.take_of_length_le (by simp; omega), List.take_of_length_le (by rw [trl_length]; simp; omega)]
/-! ### What the reference's functions compute -/
theorem rd_mid1 (done rest : List Int) (v i : Int) (h : i = done.length) : rd (done ++ v :: rest) i = v := by subst h; simp [rd]
theorem rdT_mid (pre rest : List S56) (o : S56) (i : Int) (h : i = pre.length) : rd_T56 (pre ++ o :: rest) i = o := by subst h; simp [rd_T56]
theorem inner_at (x0 : List S56) (a b x9 x10 : Int) (K0 : Nat) (R : List Int) (f : Int → Int) (hf : ∀ v, f v = if v = mx a b then mn a b else v) (rest : List Int) : ∀ (k : Nat) (done : List Int) (n : Int),
    (∀ k', K0 ≤ k' → saturateref15_Labels.l0 k' x0 (done ++ rest.map f) x9 (wrap64 (x10 + 1)) = some R) → n = ((done ++ rest).length : Nat) → (done ++ rest).length ≤ 1000 → rest.length + K0 < k →
    saturateref15_Labels.l1 k x0 (done ++ rest) a b x9 x10 n (done.length : Int) = some R := by
  induction rest with
  | nil =>
    intro k done n h hn hb hk
    obtain ⟨k, rfl⟩ : ∃ m, k = m + 1 := ⟨k - 1, by omega⟩
    simp only [saturateref15_Labels.l1]
    rw [if_neg (by simp at hn; omega)]
    exact h k (by simp at hk; omega)
  | cons v rest ih =>
    intro k done n h hn hb hk
    obtain ⟨k, rfl⟩ : ∃ m, k = m + 1 := ⟨k - 1, by omega⟩
    have hl : (done ++ v :: rest).length = done.length + rest.length + 1 := by simp; omega
    rw [hl] at hn hb
    simp only [saturateref15_Labels.l1]
    rw [if_pos (by omega), if_pos (by omega), if_pos (by omega), rd_mid1 _ _ _ _ rfl, show wrap64 ((done.length : Int) + 1) = ((done ++ [f v]).length : Int) by simp; unfold wrap64; omega]
    have e1 : done ++ f v :: rest = (done ++ [f v]) ++ rest := by simp
    have e2 : done ++ List.map f (v :: rest) = (done ++ [f v]) ++ rest.map f := by simp
    have go := ih k (done ++ [f v]) n (by rw [← e2]; exact h) (by rw [hn]; simp; omega) (by simp; omega) (by simp at hk; omega)
    rw [← e1] at go
    by_cases e : v = mx a b
    · rw [if_pos e]
      have es : (done ++ v :: rest).set (done.length : Int).toNat (mn a b) = done ++ f v :: rest := by
        rw [Int.toNat_natCast, List.set_append_right _ _ (Nat.le_refl _), Nat.sub_self, List.set_cons_zero, hf, if_pos e]
      rw [es]; exact go
    · rw [if_neg e]
      have ev : f v = v := by rw [hf, if_neg e]
      rw [ev] at go ⊢; exact go
theorem labels_at (N : Nat) (hN : N ≤ 900) (rest : List S56) : ∀ (k : Nat) (pre : List S56), Ok (pre ++ rest) → (pre ++ rest).length ≤ N → rest.length * (N + 2) < k →
    saturateref15_Labels.l0 k (pre ++ rest) (lab pre) ((pre ++ rest).length : Int) (pre.length : Int) = some (lab (pre ++ rest)) := by
  induction rest with
  | nil =>
    intro k pre h hn hk
    obtain ⟨k, rfl⟩ : ∃ m, k = m + 1 := ⟨k - 1, by omega⟩
    simp only [saturateref15_Labels.l0, List.append_nil]
    rw [if_neg (by omega)]
  | cons o rest ih =>
    intro k pre h hn hk
    obtain ⟨k, rfl⟩ : ∃ m, k = m + 1 := ⟨k - 1, by omega⟩
    have hl : (pre ++ o :: rest).length = pre.length + rest.length + 1 := by simp; omega
    have hle := lab_length_le pre
    have e1 : pre ++ o :: rest = (pre ++ [o]) ++ rest := by simp
    have ho := h pre o rest rfl
    have hm : (o :: rest).length * (N + 2) = rest.length * (N + 2) + (N + 2) := by rw [List.length_cons, Nat.succ_mul]
    rw [hm] at hk
    have go : ∀ k', rest.length * (N + 2) < k' → saturateref15_Labels.l0 k' (pre ++ o :: rest) (lab (pre ++ [o])) ((pre ++ o :: rest).length : Int) (((pre ++ [o]).length : Nat) : Int) = some (lab (pre ++ o :: rest)) := fun k' hk' => by
      rw [e1]; exact ih k' (pre ++ [o]) (by rwa [← e1]) (by rw [← e1]; exact hn) hk'
    have ew : wrap64 ((pre.length : Int) + 1) = (((pre ++ [o]).length : Nat) : Int) := by simp; unfold wrap64; omega
    simp only [saturateref15_Labels.l0]
    rw [if_pos (by omega), if_pos (by omega), if_pos (by omega), rdT_mid _ _ _ _ rfl]
    have el : lab (pre ++ [o]) = (st1 (stt pre) o).1 := by unfold lab; rw [stt_snoc]
    rcases ho with e | ⟨e, a0, a1, b0, b1, hne⟩
    · rw [if_pos e, if_pos (by omega), ew]
      have : lab pre ++ [((lab pre).length : Int)] = lab (pre ++ [o]) := by rw [el]; unfold st1; rw [if_pos e]; rfl
      rw [this]
      exact go k (by omega)
    · rw [if_neg (by rw [e]; simp), if_pos a0, if_pos a1, if_pos b0, if_pos b1]
      have := inner_at (pre ++ o :: rest) (rd (lab pre) o.f1) (rd (lab pre) o.f2) ((pre ++ o :: rest).length : Int) (pre.length : Int) (rest.length * (N + 2) + 1) (lab (pre ++ o :: rest))
        (fun v => if v = mx (rd (lab pre) o.f1) (rd (lab pre) o.f2) then mn (rd (lab pre) o.f1) (rd (lab pre) o.f2) else v) (fun v => rfl) (lab pre) k [] ((lab pre).length : Int) (fun k' hk' => by
          rw [ew]
          have e3 : [] ++ (lab pre).map (fun v => if v = mx (rd (lab pre) o.f1) (rd (lab pre) o.f2) then mn (rd (lab pre) o.f1) (rd (lab pre) o.f2) else v) = lab (pre ++ [o]) := by rw [el]; unfold st1; rw [if_neg (by rw [e]; simp)]; rfl
          rw [e3]; exact go k' (by omega)) (by simp) (by simp; omega) (by omega)
      simpa using this
theorem Labels_eq (k : Nat) (l : List S56) (h : Ok l) (hl : l.length ≤ 200) (hk : 50000 ≤ k) : saturateref15_Labels.f k l = some (lab l) := by
  unfold saturateref15_Labels.f
  have hb : l.length * (200 + 2) ≤ 200 * 202 := Nat.mul_le_mul_right _ hl
  have := labels_at 200 (by omega) l k [] (by simpa using h) (by simpa using hl) (by omega)
  simpa [lab, stt] using this
theorem Find_eq (k : Nat) (l : List S56) (h : Ok l) (hl : l.length ≤ 200) (hk : 50000 ≤ k) (x : Int) : saturateref15_Find.f k l x = some (rfnd (lab l) x) := by
  unfold saturateref15_Find.f
  rw [Labels_eq k l h hl hk]
  simp only [Option.bind_some, rfnd]
  by_cases h0 : x < 0
  · rw [if_pos h0, if_neg (by omega)]
  · by_cases h1 : x ≥ (lab l).length
    · rw [if_neg h0, if_pos h1, if_neg (by omega)]
    · rw [if_neg h0, if_neg h1, if_pos (by omega), if_pos (by omega), if_pos (by omega)]
theorem members_at (L : List Int) (r : Int) (hL : L.length ≤ 900) (m : Nat) : ∀ (k j : Nat), j + m = L.length → m < k →
    saturateref15_Members.l0 k r (if 0 ≤ r then pick (fun y => rd L y == r) j else []) L (L.length : Int) (j : Int) = some (if 0 ≤ r then pick (fun y => rd L y == r) L.length else []) := by
  induction m with
  | zero =>
    intro k j h hk
    obtain ⟨k, rfl⟩ : ∃ m, k = m + 1 := ⟨k - 1, by omega⟩
    simp only [saturateref15_Members.l0]
    rw [if_neg (by omega), show j = L.length by omega]
  | succ m ih =>
    intro k j h hk
    obtain ⟨k, rfl⟩ : ∃ m, k = m + 1 := ⟨k - 1, by omega⟩
    have hw : wrap64 ((j : Int) + 1) = ((j + 1 : Nat) : Int) := by unfold wrap64; omega
    have go := ih k (j + 1) (by omega) (by omega)
    have hpl := pick_length (fun y => rd L y == r) j
    simp only [saturateref15_Members.l0]
    rw [if_pos (by omega), hw]
    by_cases hr : 0 ≤ r
    · simp only [if_pos hr] at go ⊢
      rw [if_pos (by omega), if_pos (by omega)]
      by_cases e : rd L (j : Int) = r
      · rw [if_pos e, if_pos (by omega)]
        have : pick (fun y => rd L y == r) (j + 1) = pick (fun y => rd L y == r) j ++ [(j : Int)] := by simp only [pick]; rw [if_pos (by simpa using e)]
        rw [← this]; exact go
      · rw [if_neg e]
        have : pick (fun y => rd L y == r) (j + 1) = pick (fun y => rd L y == r) j := by simp only [pick]; rw [if_neg (by simpa using e)]
        rw [← this]; exact go
    · simp only [if_neg hr] at go ⊢
      exact go
theorem Members_eq (k : Nat) (l : List S56) (h : Ok l) (hl : l.length ≤ 200) (hk : 50000 ≤ k) (x : Int) : saturateref15_Members.f k l x = some (if 0 ≤ rfnd (lab l) x then pick (fun y => rd (lab l) y == rfnd (lab l) x) (lab l).length else []) := by
  unfold saturateref15_Members.f
  rw [Find_eq k l h hl hk, Labels_eq k l h hl hk]
  simp only [Option.bind_some]
  have hle := lab_length_le l
  have := members_at (lab l) (rfnd (lab l) x) (by omega) (lab l).length k 0 (by omega) (by omega)
  simpa [pick] using this
theorem roots_at (L : List Int) (hL : L.length ≤ 900) (m : Nat) : ∀ (k j : Nat), j + m = L.length → m < k →
    saturateref15_Roots.l0 k (pick (fun y => rd L y == y) j) L (L.length : Int) (j : Int) = some (pick (fun y => rd L y == y) L.length) := by
  induction m with
  | zero =>
    intro k j h hk
    obtain ⟨k, rfl⟩ : ∃ m, k = m + 1 := ⟨k - 1, by omega⟩
    simp only [saturateref15_Roots.l0]
    rw [if_neg (by omega), show j = L.length by omega]
  | succ m ih =>
    intro k j h hk
    obtain ⟨k, rfl⟩ : ∃ m, k = m + 1 := ⟨k - 1, by omega⟩
    have hw : wrap64 ((j : Int) + 1) = ((j + 1 : Nat) : Int) := by unfold wrap64; omega
    have go := ih k (j + 1) (by omega) (by omega)
    have hpl := pick_length (fun y => rd L y == y) j
    simp only [saturateref15_Roots.l0]
    rw [if_pos (by omega), hw, if_pos (by omega), if_pos (by omega)]
    by_cases e : rd L (j : Int) = (j : Int)
    · rw [if_pos e, if_pos (by omega)]
      have : pick (fun y => rd L y == y) (j + 1) = pick (fun y => rd L y == y) j ++ [(j : Int)] := by simp only [pick]; rw [if_pos (by simpa using e)]
      rw [← this]; exact go
    · rw [if_neg e]
      have : pick (fun y => rd L y == y) (j + 1) = pick (fun y => rd L y == y) j := by simp only [pick]; rw [if_neg (by simpa using e)]
      rw [← this]; exact go
theorem Roots_eq (k : Nat) (l : List S56) (h : Ok l) (hl : l.length ≤ 200) (hk : 50000 ≤ k) : saturateref15_Roots.f k l = some (pick (fun y => rd (lab l) y == y) (lab l).length) := by
  unfold saturateref15_Roots.f
  rw [Labels_eq k l h hl hk]
  simp only [Option.bind_some]
  have hle := lab_length_le l
  have := roots_at (lab l) (by omega) (lab l).length k 0 (by omega) (by omega)
  simpa [pick] using this
theorem same_at (L : List Int) (hL : L.length ≤ 900) (m : Nat) : ∀ (k j : Nat), j + m = L.length → m < k → saturateref15_Same.l0 k L L (L.length : Int) (j : Int) = some true := by
  induction m with
  | zero =>
    intro k j h hk
    obtain ⟨k, rfl⟩ : ∃ m, k = m + 1 := ⟨k - 1, by omega⟩
    simp only [saturateref15_Same.l0]
    rw [if_neg (by omega)]
  | succ m ih =>
    intro k j h hk
    obtain ⟨k, rfl⟩ : ∃ m, k = m + 1 := ⟨k - 1, by omega⟩
    have hw : wrap64 ((j : Int) + 1) = ((j + 1 : Nat) : Int) := by unfold wrap64; omega
    have c1 : (j : Int) < (L.length : Int) := by omega
    simp only [saturateref15_Same.l0]
    simp only [if_pos c1, if_pos (show (0 : Int) ≤ j by omega), if_true, hw]
    exact ih k (j + 1) (by omega) (by omega)
theorem Same_eq (k : Nat) (L : List Int) (hL : L.length ≤ 900) (hk : 1000 ≤ k) : saturateref15_Same.f k L L = some true := by
  unfold saturateref15_Same.f
  rw [if_pos rfl]
  exact same_at L hL L.length k 0 (by omega) (by omega)

/-! ### The two sides agree -/
theorem pick_congr {f g : Int → Bool} (n : Nat) (h : ∀ i : Nat, i < n → f i = g i) : pick f n = pick g n := by
  induction n with
  | zero => rfl
  | succ n ih => simp only [pick]; rw [ih (fun i hi => h i (by omega)), h n (by omega)]
theorem mem_eq {L P : List Int} (h : Inv L P) (x : Int) : mem P x = if 0 ≤ rfnd L x then pick (fun y => rd L y == rfnd L x) L.length else [] := by
  unfold mem
  have hl := h.len
  by_cases hx : 0 ≤ x ∧ x < L.length
  · have hr : rfnd L x = rd L x := by unfold rfnd; rw [if_pos hx]
    have := h.lo x hx.1 hx.2
    rw [inB_yes hx.1 (by omega), if_pos rfl, if_pos (by omega), hl]
    refine pick_congr _ (fun i hi => ?_)
    rw [h.find x, h.find i, hr]
    have : rfnd L (i : Int) = rd L i := by unfold rfnd; rw [if_pos (by omega)]
    rw [this]
  · have hr : rfnd L x = -1 := by unfold rfnd; rw [if_neg hx]
    rw [inB_no (by omega), hr]; rfl
theorem roots_eq {L P : List Int} (h : Inv L P) : pick (fun y => rd P y == y) P.length = pick (fun y => rd L y == y) L.length := by
  rw [h.len]
  refine pick_congr _ (fun i hi => ?_)
  have := h.fix i (by omega) (by omega)
  by_cases e : rd P (i : Int) = i
  · rw [e, this.1 e]
  · rw [beq_eq_false_iff_ne.2 e, beq_eq_false_iff_ne.2 (fun e2 => e (this.2 e2))]
/-- What an act makes of the operations. -/
def nxt (l : List S56) (a : S37) : List S56 :=
  if a.f0 = 1 then l ++ [⟨true, 0, 0⟩]
  else if a.f0 = 2 then (if 0 ≤ rfnd (lab l) a.f1 ∧ 0 ≤ rfnd (lab l) a.f2 ∧ rfnd (lab l) a.f1 ≠ rfnd (lab l) a.f2 then l ++ [⟨false, a.f1, a.f2⟩] else l)
  else if a.f0 = 3 then (if 0 ≤ a.f1 ∧ a.f1 ≤ l.length then l.take a.f1.toNat else l)
  else l
theorem rfnd_in {L : List Int} {x : Int} (h : 0 ≤ rfnd L x) : 0 ≤ x ∧ x < L.length ∧ rfnd L x = rd L x := by
  unfold rfnd at *
  split at h
  · rename_i e; rw [if_pos e]; exact ⟨e.1, e.2, rfl⟩
  · omega
theorem Ok.nxt {l : List S56} (h : Ok l) (a : S37) : Ok (nxt l a) := by
  unfold UF.nxt
  split
  · exact h.snoc (.inl rfl)
  split
  · split
    · rename_i c
      obtain ⟨c1, c2, c3⟩ := c
      have d1 := rfnd_in c1
      have d2 := rfnd_in c2
      exact h.snoc (.inr ⟨rfl, d1.1, d1.2.1, d2.1, d2.2.1, by rw [← d1.2.2, ← d2.2.2]; exact c3⟩)
    · exact h
  split
  · split
    · exact h.take _
    · exact h
  · exact h
theorem nxt_length (l : List S56) (a : S37) : (nxt l a).length ≤ l.length + 1 := by
  unfold nxt
  repeat' split
  all_goals simp
  all_goals omega

end Go.Proofs.Ytdjgnoofdhjicaa.UF
