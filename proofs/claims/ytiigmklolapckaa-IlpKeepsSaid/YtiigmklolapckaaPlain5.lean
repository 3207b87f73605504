/- All assignments in their order, in plain lists, and which ones agree with what is told. Condition: at most sixteen variables. -/
import Derived.Test.YtiigmklolapckaaPlain4
import Derived.Test.YtiigmklolapckaaQAllx18
namespace Go.Proofs.Ytiigmklolapckaa.Plain
open Go.RowKit Go.Proofs.YtiigmklolapckaaW.PrintWords Go.Proofs.YtiigmklolapckaaW.PrintLast Go.Proofs.YtiigmklolapckaaW.PrintMore Go.Proofs.Ytiigmklolapckaa.QAll
set_option linter.unusedVariables false

/-- The last n binary digits of a number, the highest one first. -/
def bits (q : Nat) : Nat → List Bool
  | 0 => []
  | n + 1 => decide (q / 2 ^ n % 2 = 1) :: bits q n
theorem bits_len (q : Nat) : ∀ n, (bits q n).length = n
  | 0 => rfl
  | n + 1 => by simp [bits, bits_len q n]
theorem u64_small (i : Nat) (h : i ≤ 100) : IntKind.u64.wrap (i : Int) = (i : Int) := by
  simp only [IntKind.wrap]
  simp [IntKind.bits, IntKind.signed]
  omega
theorem shl_pow (n : Nat) (h : n ≤ 16) : shl .i64 1 (IntKind.u64.wrap (n : Int)) = ((2 ^ n : Nat) : Int) := by
  rw [u64_small n (by omega)]
  have : n = 0 ∨ n = 1 ∨ n = 2 ∨ n = 3 ∨ n = 4 ∨ n = 5 ∨ n = 6 ∨ n = 7 ∨ n = 8 ∨ n = 9 ∨ n = 10 ∨ n = 11 ∨ n = 12 ∨ n = 13 ∨ n = 14 ∨ n = 15 ∨ n = 16 := by omega
  rcases this with rfl | rfl | rfl | rfl | rfl | rfl | rfl | rfl | rfl | rfl | rfl | rfl | rfl | rfl | rfl | rfl | rfl <;> decide
theorem digit (q n : Nat) (h : n ≤ 16) : (Int.tmod (shr .i64 (q : Int) (IntKind.u64.wrap (n : Int))) 2 == 1) = decide (q / 2 ^ n % 2 = 1) := by
  rw [u64_small n (by omega)]
  unfold shr
  rw [show min (n : Int).toNat IntKind.i64.bits = n by simp [IntKind.bits]; omega]
  rw [show ((q : Int) / 2 ^ n) = ((q / 2 ^ n : Nat) : Int) by push_cast; rfl]
  rw [Int.tmod_eq_emod_of_nonneg (Int.natCast_nonneg _)]
  generalize q / 2 ^ n = z
  by_cases e : z % 2 = 1
  · rw [decide_eq_true e]; rw [beq_iff_eq]; omega
  · rw [decide_eq_false e]; rw [beq_eq_false_iff_ne]; omega
theorem ass_l0 (q : Nat) : ∀ (n k : Nat) (acc : List Bool), n ≤ 16 → acc.length + n ≤ 100 → n < k → saturateref41_Assignment.l0 k (q : Int) acc ((n : Int) - 1) = some (acc ++ bits q n) := by
  intro n
  induction n with
  | zero =>
    intro k acc hn ha hk
    obtain ⟨k, rfl, hk⟩ := fuel hk
    simp only [saturateref41_Assignment.l0]
    rw [if_neg (by omega)]
    simp [bits]
  | succ n ih =>
    intro k acc hn ha hk
    obtain ⟨k, rfl, hk⟩ := fuel hk
    simp only [saturateref41_Assignment.l0]
    rw [show (((n + 1 : Nat) : Int) - 1) = (n : Int) by omega, digit q n (by omega), u64_small n (by omega), if_pos (by omega), if_pos (by omega), if_pos (by omega), wrap_id (by omega) (by omega)]
    rw [ih k _ (by omega) (by simp; omega) (by omega)]
    simp [bits]
theorem ass_eq (q n k : Nat) (hn : n ≤ 16) (hk : 20 ≤ k) : saturateref41_Assignment.f k (n : Int) (q : Int) = some (bits q n) := by
  unfold saturateref41_Assignment.f
  rw [wrap_id (by omega) (by omega), ass_l0 q n k [] hn (by simp; omega) (by omega)]
  rfl
/-! ### agreement, as the law asks it -/
theorem agr_l0 (x : List Int) (s : List Bool) (hs : s.length = x.length) (hx : x.length ≤ 1000) : ∀ (m i k : Nat), i + m = x.length → m < k →
    ∃ b, saturatelaw41_agrees.l0 k x s (i : Int) = some b ∧ (b = true ↔ ∀ v : Int, (i : Int) ≤ v → v < x.length → (rd x v = 1 → rdOf false s v = true) ∧ (rd x v = 0 → rdOf false s v = false)) := by
  intro m
  induction m with
  | zero =>
    intro i k hi hk
    obtain ⟨k, rfl, hk⟩ := fuel hk
    simp only [saturatelaw41_agrees.l0]
    rw [if_neg (by omega)]
    exact ⟨true, rfl, fun _ v h0 h1 => by omega, fun _ => rfl⟩
  | succ m ih =>
    intro i k hi hk
    obtain ⟨k, rfl, hk⟩ := fuel hk
    obtain ⟨b, hb, hiff⟩ := ih (i + 1) k (by omega) (by omega)
    simp only [saturatelaw41_agrees.l0]
    rw [if_pos (by omega), if_pos (by omega), wrap_nat i (by omega), if_pos (by omega : (i : Int) < s.length), hb]
    have hno : ¬ ((rd x (i : Int) = 1 → rdOf false s (i : Int) = true) ∧ (rd x (i : Int) = 0 → rdOf false s (i : Int) = false)) → (false = true ↔ ∀ v : Int, (i : Int) ≤ v → v < x.length → (rd x v = 1 → rdOf false s v = true) ∧ (rd x v = 0 → rdOf false s v = false)) :=
      fun h => Iff.intro (fun e => by cases e) (fun h2 => absurd (h2 (i : Int) (by omega) (by omega)) h)
    have hyes : ((rd x (i : Int) = 1 → rdOf false s (i : Int) = true) ∧ (rd x (i : Int) = 0 → rdOf false s (i : Int) = false)) → (b = true ↔ ∀ v : Int, (i : Int) ≤ v → v < x.length → (rd x v = 1 → rdOf false s v = true) ∧ (rd x v = 0 → rdOf false s v = false)) :=
      fun h => hiff.trans ⟨fun h2 v h0 h1 => by
        by_cases e : v = i
        · subst e; exact h
        · exact h2 v (by omega) h1, fun h2 v h0 h1 => h2 v (by omega) h1⟩
    by_cases e1 : rd x (i : Int) = 1
    · rw [if_pos e1]
      by_cases e2 : rdOf false s (i : Int) = true
      · rw [if_pos e2, if_neg (by omega)]; exact ⟨b, rfl, hyes ⟨fun _ => e2, fun h => by omega⟩⟩
      · rw [if_neg e2]; exact ⟨false, rfl, hno (fun h => e2 (h.1 e1))⟩
    · rw [if_neg e1]
      by_cases e0 : rd x (i : Int) = 0
      · rw [if_pos e0, if_pos (by omega : (i : Int) < s.length)]
        by_cases e2 : rdOf false s (i : Int) = true
        · rw [if_pos e2]; exact ⟨false, rfl, hno (fun h => by rw [h.2 e0] at e2; cases e2)⟩
        · rw [if_neg e2]; exact ⟨b, rfl, hyes ⟨fun h => absurd h e1, fun _ => Bool.eq_false_iff.2 e2⟩⟩
      · rw [if_neg e0]; exact ⟨b, rfl, hyes ⟨fun h => absurd h e1, fun h => absurd h e0⟩⟩
theorem agr_eq (x : List Int) (s : List Bool) (hs : s.length = x.length) (hx : x.length ≤ 1000) (k : Nat) (hk : 2000 ≤ k) : ∃ b, saturatelaw41_agrees.f k x s = some b ∧ (b = true ↔ Agr x s) := by
  obtain ⟨b, h1, h2⟩ := agr_l0 x s hs hx x.length 0 k (by omega) (by omega)
  exact ⟨b, h1, h2⟩
end Go.Proofs.Ytiigmklolapckaa.Plain
