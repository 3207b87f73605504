/- The reference's search over all assignments, in plain lists. Condition: few variables, rows and coefficients. -/
import Derived.Test.YtiigmklolapckaaPlain8
import Derived.Test.YtiigmklolapckaaPlainF
import Derived.Test.YtiigmklolapckaaPlainC
import Derived.Test.YtiigmklolapckaaQAllx15
namespace Go.Proofs.Ytiigmklolapckaa.Plain
open Go.RowKit Go.Proofs.YtiigmklolapckaaW.PrintWords Go.Proofs.YtiigmklolapckaaW.PrintLast Go.Proofs.YtiigmklolapckaaW.PrintMore Go.Proofs.Ytiigmklolapckaa.QAll
set_option linter.unusedVariables false

/-! ### numbers and assignments -/
theorem mod_two (q n : Nat) : q % 2 ^ (n + 1) = q % 2 ^ n + 2 ^ n * (q / 2 ^ n % 2) := by rw [Nat.pow_succ, Nat.mod_mul]
theorem bits_lex : ∀ (n q r : Nat), q % 2 ^ n < r % 2 ^ n → Lex (bits q n) (bits r n)
  | 0, q, r, h => by simp [Nat.mod_one] at h
  | n + 1, q, r, h => by
    rw [mod_two, mod_two] at h
    have hq : q % 2 ^ n < 2 ^ n := Nat.mod_lt _ (Nat.two_pow_pos n)
    have hr : r % 2 ^ n < 2 ^ n := Nat.mod_lt _ (Nat.two_pow_pos n)
    have ih := bits_lex n q r
    simp only [bits]
    rcases Nat.mod_two_eq_zero_or_one (q / 2 ^ n) with a | a <;> rcases Nat.mod_two_eq_zero_or_one (r / 2 ^ n) with b | b
    · exact .inr ⟨by rw [a, b], ih (by rw [a, b] at h; omega)⟩
    · exact .inl ⟨by simp [a], by simp [b]⟩
    · rw [a, b] at h; omega
    · exact .inr ⟨by rw [a, b], ih (by rw [a, b] at h; omega)⟩
theorem bits_congr : ∀ (n q r : Nat), q % 2 ^ n = r % 2 ^ n → bits q n = bits r n
  | 0, _, _, _ => rfl
  | n + 1, q, r, h => by
    rw [mod_two, mod_two] at h
    have hq : q % 2 ^ n < 2 ^ n := Nat.mod_lt _ (Nat.two_pow_pos n)
    have hr : r % 2 ^ n < 2 ^ n := Nat.mod_lt _ (Nat.two_pow_pos n)
    have ih := bits_congr n q r
    simp only [bits]
    rcases Nat.mod_two_eq_zero_or_one (q / 2 ^ n) with a | a <;> rcases Nat.mod_two_eq_zero_or_one (r / 2 ^ n) with b | b
    · rw [a, b, ih (by rw [a, b] at h; omega)]
    · rw [a, b] at h; omega
    · rw [a, b] at h; omega
    · rw [a, b, ih (by rw [a, b] at h; omega)]
def valB : List Bool → Nat
  | [] => 0
  | b :: s => (if b = true then 2 ^ s.length else 0) + valB s
theorem valB_lt : ∀ s, valB s < 2 ^ s.length
  | [] => by simp [valB]
  | b :: s => by
    have := valB_lt s
    simp only [valB, List.length_cons, Nat.pow_succ]
    split <;> omega
theorem bits_val : ∀ s, bits (valB s) s.length = s
  | [] => rfl
  | b :: s => by
    have h := valB_lt s
    have hp := Nat.two_pow_pos s.length
    have ih := bits_val s
    simp only [List.length_cons, bits, valB]
    by_cases e : b = true
    · rw [if_pos e, bits_congr s.length _ (valB s) (by rw [Nat.add_mod_left]), ih, Nat.add_div_left _ hp, Nat.div_eq_of_lt h, e]; rfl
    · rw [if_neg e, Nat.zero_add, ih, Nat.div_eq_of_lt h, Bool.eq_false_iff.2 e]; rfl
/-! ### costs -/
theorem costB_eq (p0 : List Int) (h : Cheap p0) (s : List Bool) (a : Int) (h0 : 0 ≤ a) (h1 : a ≤ 1152921504606846976 - 1099511627776 * p0.length) : costB p0 s a = a + costZ p0 s := by
  induction p0 generalizing s a with
  | nil => simp [costB, costZ]
  | cons c cs ih =>
    cases s with
    | nil => simp [costB, costZ]
    | cons b bs =>
      have hc := h c List.mem_cons_self
      have hl : ((c :: cs).length : Int) = cs.length + 1 := by simp
      rw [hl] at h1
      have ih := fun a h0 h1 => ih (fun c hc => h c (List.mem_cons_of_mem _ hc)) bs a h0 h1
      have hm : mn (mx c 0) 1099511627776 = c := by unfold mn mx; repeat' split
                                                    all_goals omega
      simp only [costB, costZ]
      rw [hm]
      by_cases e : b = true
      · rw [if_pos e, if_pos e, wrap_id (by omega) (by omega), ih _ (by omega) (by omega)]; omega
      · rw [if_neg e, if_neg e, ih _ (by omega) (by omega)]; omega
section
variable (p0 : List Int) (p1 : List S43) (hF : Few 70 p0 p1) (hV : Valid p0 p1)
include hF hV
theorem rcost_eq (s : List Bool) (k : Nat) (hk : 1000 ≤ k) : saturateref41_Cost.f k p0 p1 s = some (costZ p0 s) := by
  have hc := hF.costs
  have := rcost_l0 p0 p1 s (by omega) p0.length 0 k 0 (by omega) (by omega)
  rw [show ((0 : Nat) : Int) = 0 from rfl, List.drop_zero, List.drop_zero, costB_eq p0 hV.costs s 0 (by omega) (by omega), Int.zero_add] at this
  exact this
/-- What the first i assignments tell. -/
def Upto (p0 : List Int) (p1 : List S43) (i : Nat) (b : List Bool) (found : Bool) : Prop :=
  (found = false ∧ ∀ q, q < i → ¬ Good p0 p1 (bits q p0.length)) ∨ (found = true ∧ First p0 (fun s => ∃ q, q < i ∧ s = bits q p0.length ∧ Good p0 p1 s) b)
omit hF in
theorem good_feas (hc : (chk p0 p1).2 = 0) (s : List Bool) : feas p0 p1 s = true ↔ Good p0 p1 s := feas_plain hV s hc
omit hF hV in
theorem upto_skip {i : Nat} {b : List Bool} {f : Bool} (h : Upto p0 p1 i b f) (hg : ¬ Good p0 p1 (bits i p0.length)) : Upto p0 p1 (i + 1) b f := by
  rcases h with ⟨e, h⟩ | ⟨e, h⟩
  · refine .inl ⟨e, fun q hq => ?_⟩
    by_cases eq : q = i
    · subst eq; exact hg
    · exact h q (by omega)
  · obtain ⟨q, hq, e1, g⟩ := h.1
    refine .inr ⟨e, ⟨q, by omega, e1, g⟩, ?_⟩
    rintro t ⟨q2, hq2, rfl, g2⟩
    by_cases eq : q2 = i
    · subst eq; exact absurd g2 hg
    · exact h.2 _ ⟨q2, by omega, rfl, g2⟩
omit hF hV in
theorem upto_first {i : Nat} {b : List Bool} (h : Upto p0 p1 i b false) (hg : Good p0 p1 (bits i p0.length)) : Upto p0 p1 (i + 1) (bits i p0.length) true := by
  rcases h with ⟨_, h⟩ | ⟨e, _⟩
  · refine .inr ⟨rfl, ⟨i, by omega, rfl, hg⟩, ?_⟩
    rintro t ⟨q2, hq2, rfl, g2⟩
    by_cases eq : q2 = i
    · subst eq; exact .inr ⟨rfl, .inl rfl⟩
    · exact absurd g2 (h q2 (by omega))
  · cases e
omit hF hV in
theorem upto_less {i : Nat} {b : List Bool} (h : Upto p0 p1 i b true) (hg : Good p0 p1 (bits i p0.length)) (hl : costZ p0 (bits i p0.length) < costZ p0 b) : Upto p0 p1 (i + 1) (bits i p0.length) true := by
  rcases h with ⟨e, _⟩ | ⟨_, h⟩
  · cases e
  · refine .inr ⟨rfl, ⟨i, by omega, rfl, hg⟩, ?_⟩
    rintro t ⟨q2, hq2, rfl, g2⟩
    by_cases eq : q2 = i
    · subst eq; exact .inr ⟨rfl, .inl rfl⟩
    · rcases h.2 _ ⟨q2, by omega, rfl, g2⟩ with h | ⟨h, _⟩ <;> exact .inl (by omega)
omit hF hV in
theorem upto_more {i : Nat} {b : List Bool} (h : Upto p0 p1 i b true) (hi : i < 2 ^ p0.length) (hl : ¬ costZ p0 (bits i p0.length) < costZ p0 b) : Upto p0 p1 (i + 1) b true := by
  rcases h with ⟨e, _⟩ | ⟨_, h⟩
  · cases e
  · obtain ⟨q, hq, e1, g⟩ := h.1
    refine .inr ⟨rfl, ⟨q, by omega, e1, g⟩, ?_⟩
    rintro t ⟨q2, hq2, rfl, g2⟩
    by_cases eq : q2 = i
    · subst eq
      by_cases e : costZ p0 b = costZ p0 (bits q2 p0.length)
      · refine .inr ⟨e, .inr ?_⟩
        rw [e1]
        exact bits_lex _ _ _ (by rw [Nat.mod_eq_of_lt (by omega), Nat.mod_eq_of_lt hi]; exact hq)
      · exact .inl (by omega)
    · exact h.2 _ ⟨q2, by omega, rfl, g2⟩
omit hF hV in
theorem upto_all {b : List Bool} {f : Bool} (h : Upto p0 p1 (2 ^ p0.length) b f) : Answer p0 p1 (if f = true then (b, costZ p0 b, 0) else ([], 0, 16)) := by
  have hq : ∀ s, Good p0 p1 s → ∃ q, q < 2 ^ p0.length ∧ s = bits q p0.length := fun s hs => ⟨valB s, by have := valB_lt s; rwa [hs.1] at this, by have := bits_val s; rw [hs.1] at this; exact this.symm⟩
  rcases h with ⟨rfl, h⟩ | ⟨rfl, h⟩
  · exact .inl ⟨rfl, fun s hs => by obtain ⟨q, h1, h2⟩ := hq s hs; exact h q h1 (h2 ▸ hs)⟩
  · refine .inr ⟨b, ⟨by obtain ⟨q, _, _, g⟩ := h.1; exact g, fun t ht => ?_⟩, rfl⟩
    obtain ⟨q, h1, h2⟩ := hq t ht
    exact h.2 t ⟨q, h1, h2, ht⟩
theorem rsolve_l0 (hc : (chk p0 p1).2 = 0) (hn : p0.length ≤ 9) : ∀ (m i k : Nat) (b : List Bool) (f : Bool), i + m = 2 ^ p0.length → m + 10000 < k → Upto p0 p1 i b f → ∃ r, saturateref41_Solve.l0 k b f (i : Int) p0 p1 = some r ∧ Answer p0 p1 r := by
  have h512 : 2 ^ p0.length ≤ 2 ^ 9 := Nat.pow_le_pow_right (by omega) hn
  intro m
  induction m with
  | zero =>
    intro i k b f hi hk h
    obtain ⟨k, rfl, hk⟩ := fuel hk
    have hi : i = 2 ^ p0.length := by omega
    subst hi
    have ha := upto_all p0 p1 h
    simp only [saturateref41_Solve.l0]
    rw [shl_pow p0.length (by omega), u64_small p0.length (by omega), if_pos (by omega), if_neg (by omega)]
    by_cases e : f = true
    · rw [if_pos e] at ha ⊢
      rw [rcost_eq p0 p1 hF hV b k (by omega), Option.bind_some]
      exact ⟨_, rfl, ha⟩
    · rw [if_neg e] at ha ⊢
      exact ⟨_, rfl, ha⟩
  | succ m ih =>
    intro i k b f hi hk h
    obtain ⟨k, rfl, hk⟩ := fuel hk
    have hi2 : i < 2 ^ p0.length := by omega
    simp only [saturateref41_Solve.l0]
    rw [shl_pow p0.length (by omega), u64_small p0.length (by omega), if_pos (by omega), if_pos (by omega), ass_eq i p0.length k (by omega) (by omega), Option.bind_some, rfeas_eq p0 p1 hF _ k (by omega), Option.bind_some, wrap_nat i (by omega)]
    have hg := good_feas p0 p1 hV hc (bits i p0.length)
    by_cases e : feas p0 p1 (bits i p0.length) = true
    · rw [if_pos e]
      have hg := hg.1 e
      by_cases ef : f = true
      · subst ef
        rw [if_pos rfl, rcost_eq p0 p1 hF hV _ k (by omega), Option.bind_some, rcost_eq p0 p1 hF hV _ k (by omega), Option.bind_some]
        by_cases el : costZ p0 (bits i p0.length) < costZ p0 b
        · rw [if_pos el]; exact ih (i + 1) k _ _ (by omega) (by omega) (upto_less p0 p1 h hg el)
        · rw [if_neg el]; exact ih (i + 1) k _ _ (by omega) (by omega) (upto_more p0 p1 h hi2 el)
      · rw [if_neg ef]
        exact ih (i + 1) k _ _ (by omega) (by omega) (upto_first p0 p1 (Bool.eq_false_iff.2 ef ▸ h) hg)
    · rw [if_neg e]
      exact ih (i + 1) k _ _ (by omega) (by omega) (upto_skip p0 p1 h (fun g => e (hg.2 g)))
end
theorem rsolve_eq (p0 : List Int) (p1 : List S43) (hF : Few 70 p0 p1) (hn : p0.length ≤ 9) (k : Nat) (hk : 20000 ≤ k) :
    ∃ r, saturateref41_Solve.f k p0 p1 = some r ∧ ((chk p0 p1).2 = 0 → Answer p0 p1 r) ∧ ((chk p0 p1).2 ≠ 0 → r = ([], 0, (chk p0 p1).2)) := by
  have h512 : 2 ^ p0.length ≤ 2 ^ 9 := Nat.pow_le_pow_right (by omega) hn
  unfold saturateref41_Solve.f
  rw [rcheck_eq p0 p1 hF k (by omega), Option.bind_some]
  by_cases hc : (chk p0 p1).2 = 0
  · rw [if_pos hc]
    obtain ⟨r, h1, h2⟩ := rsolve_l0 p0 p1 hF (chk_ok hc) hc hn (2 ^ p0.length) 0 k [] false (by omega) (by omega) (.inl ⟨rfl, fun q h => by omega⟩)
    exact ⟨r, h1, fun _ => h2, fun h => absurd hc h⟩
  · rw [if_neg hc]
    exact ⟨_, rfl, fun h => absurd h hc, fun _ => rfl⟩
theorem Answer.unique {p0 : List Int} {p1 : List S43} {r s : List Bool × Int × Int} (h : Answer p0 p1 r) (g : Answer p0 p1 s) : r = s := by
  rcases h with ⟨rfl, h⟩ | ⟨x, h, rfl⟩
  · rcases g with ⟨rfl, g⟩ | ⟨y, g, rfl⟩
    · rfl
    · exact absurd g.1 (h y)
  · rcases g with ⟨rfl, g⟩ | ⟨y, g, rfl⟩
    · exact absurd h.1 (g x)
    · rw [h.unique g]
/-! ### the same assignment -/
theorem lessself_l0 (x : List Bool) (hx : x.length ≤ 1000) : ∀ (m i k : Nat), i + m = x.length → 2 * m + 1 < k → saturateref41_Less.l0 k x x (i : Int) = some false := by
  intro m
  induction m with
  | zero =>
    intro i k hi hk
    obtain ⟨k, rfl, hk⟩ := fuel hk
    obtain ⟨k, rfl, hk⟩ := fuel (show 0 < k by omega)
    simp only [saturateref41_Less.l0, saturateref41_Less.j1]
    rw [if_neg (by omega), if_neg (by simp), decide_eq_false (by omega)]
  | succ m ih =>
    intro i k hi hk
    obtain ⟨k, rfl, hk⟩ := fuel hk
    obtain ⟨k, rfl, hk⟩ := fuel (show 2 * m + 1 < k by omega)
    simp only [saturateref41_Less.l0, saturateref41_Less.j1]
    rw [if_pos (by omega), if_pos (decide_eq_true (by omega)), if_pos (by omega), if_pos (by omega), if_pos (by omega), if_neg (by simp), wrap_nat i (by omega), ih (i + 1) k (by omega) (by omega)]
theorem bsame_eq (x : List Bool) (hx : x.length ≤ 1000) (k : Nat) (hk : 3000 ≤ k) : saturateref41_Same.f k x x = some true := by
  have h : saturateref41_Less.f k x x = some false := lessself_l0 x hx x.length 0 k (by omega) (by omega)
  unfold saturateref41_Same.f
  rw [h, Option.bind_some, if_neg (by simp), Option.bind_some]
  rfl
end Go.Proofs.Ytiigmklolapckaa.Plain
