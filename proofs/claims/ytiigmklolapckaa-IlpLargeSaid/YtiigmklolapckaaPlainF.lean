/- All assignments in their order, in plain lists. Condition: at most sixteen variables. -/
import Derived.Test.YtiigmklolapckaaPlainD
import Derived.Test.YtiigmklolapckaaQAllxA
namespace Go.Proofs.Ytiigmklolapckaa.Plain
open Go.RowKit Go.Proofs.YtiigmklolapckaaW.PrintWords Go.Proofs.YtiigmklolapckaaW.PrintLast Go.Proofs.YtiigmklolapckaaW.PrintMore Go.Proofs.Ytiigmklolapckaa.QAll
set_option linter.unusedVariables false
/-- The last n binary digits of a number, the highest one first. -/
def bits (q : Nat) : Nat → List Bool
  | 0 => []
  | n + 1 => decide (q / 2 ^ n % 2 = 1) :: bits q n
theorem bits_len (q : Nat) : ∀ n, (bits q n).length = n
  | 0 => rfl
  | n + 1 => by simp [bits, bits_len q n]
theorem u64_small (i : Nat) (h : i ≤ 100) : IntKind.u64.wrap (i : Int) = (i : Int) := by
  simp only [IntKind.wrap]
  simp [IntKind.bits, IntKind.signed]
  omega
theorem shl_pow (n : Nat) (h : n ≤ 16) : shl .i64 1 (IntKind.u64.wrap (n : Int)) = ((2 ^ n : Nat) : Int) := by
  rw [u64_small n (by omega)]
  have : n = 0 ∨ n = 1 ∨ n = 2 ∨ n = 3 ∨ n = 4 ∨ n = 5 ∨ n = 6 ∨ n = 7 ∨ n = 8 ∨ n = 9 ∨ n = 10 ∨ n = 11 ∨ n = 12 ∨ n = 13 ∨ n = 14 ∨ n = 15 ∨ n = 16 := by omega
  rcases this with rfl | rfl | rfl | rfl | rfl | rfl | rfl | rfl | rfl | rfl | rfl | rfl | rfl | rfl | rfl | rfl | rfl <;> decide
theorem digit (q n : Nat) (h : n ≤ 16) : (Int.tmod (shr .i64 (q : Int) (IntKind.u64.wrap (n : Int))) 2 == 1) = decide (q / 2 ^ n % 2 = 1) := by
  rw [u64_small n (by omega)]
  unfold shr
  rw [show min (n : Int).toNat IntKind.i64.bits = n by simp [IntKind.bits]; omega]
  rw [show ((q : Int) / 2 ^ n) = ((q / 2 ^ n : Nat) : Int) by push_cast; rfl]
  rw [Int.tmod_eq_emod_of_nonneg (Int.natCast_nonneg _)]
  generalize q / 2 ^ n = z
  by_cases e : z % 2 = 1
  · rw [decide_eq_true e]; rw [beq_iff_eq]; omega
  · rw [decide_eq_false e]; rw [beq_eq_false_iff_ne]; omega
theorem ass_l0 (q : Nat) : ∀ (n k : Nat) (acc : List Bool), n ≤ 16 → acc.length + n ≤ 100 → n < k → saturateref41_Assignment.l0 k (q : Int) acc ((n : Int) - 1) = some (acc ++ bits q n) := by
  intro n
  induction n with
  | zero =>
    intro k acc hn ha hk
    obtain ⟨k, rfl, hk⟩ := fuel hk
    simp only [saturateref41_Assignment.l0]
    rw [if_neg (by omega)]
    simp [bits]
  | succ n ih =>
    intro k acc hn ha hk
    obtain ⟨k, rfl, hk⟩ := fuel hk
    simp only [saturateref41_Assignment.l0]
    rw [show (((n + 1 : Nat) : Int) - 1) = (n : Int) by omega, digit q n (by omega), u64_small n (by omega), if_pos (by omega), if_pos (by omega), if_pos (by omega), wrap_id (by omega) (by omega)]
    rw [ih k _ (by omega) (by simp; omega) (by omega)]
    simp [bits]
theorem ass_eq (q n k : Nat) (hn : n ≤ 16) (hk : 20 ≤ k) : saturateref41_Assignment.f k (n : Int) (q : Int) = some (bits q n) := by
  unfold saturateref41_Assignment.f
  rw [wrap_id (by omega) (by omega), ass_l0 q n k [] hn (by simp; omega) (by omega)]
  rfl
end Go.Proofs.Ytiigmklolapckaa.Plain
