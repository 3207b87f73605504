/- What Simulate computes in the program. No condition. -/
import Derived.Test.YtfocgjcfalhglaaQAllx8
import Derived.Test.YtfocgjcfalhglaaPlain
namespace Go.Proofs.Ytfocgjcfalhglaa.QAll
open Go.RowKit Go.Proofs.YtfocgjcfalhglaaW.PrintWords Go.Proofs.YtfocgjcfalhglaaW.PrintLast Go.Proofs.YtfocgjcfalhglaaW.PrintMore

/-! ### Simulates -/
def rdy (d i : Int) : Bool := decide (mn (mx i 0) 1099511627776 ≥ mn (mx d 0) 4398046511104)
def simF (a b c d : Int) : List Int → Int → List Bool
  | [], _ => []
  | f :: fs, i => if rdy d i = true then (tk a b c d i f).2.2.2.2 :: simF (tk a b c d i f).1 (tk a b c d i f).2.1 (tk a b c d i f).2.2.1 (tk a b c d i f).2.2.2.1 fs (i + 1) else false :: simF a b c d fs (i + 1)
theorem simF_length (l : List Int) : ∀ a b c d i, (simF a b c d l i).length = l.length := by
  induction l with
  | nil => intros; rfl
  | cons f fs ih => intro a b c d i; simp only [simF]; split <;> simp [ih]
theorem rd_mid (pre rest : List Int) (f : Int) : rd (pre ++ f :: rest) (pre.length : Int) = f := by
  simp [rd]
theorem sim_at (rest : List Int) : ∀ (k : Nat) (pre : List Int) (done : List Bool) (a b c d n i : Int), done.length = pre.length → i = pre.length → n = ((pre ++ rest).length : Nat) → (pre ++ rest).length ≤ 1000 → rest.length < k →
    scheduler_Simulate.l0 k (pre ++ rest) (done ++ List.replicate rest.length false) n i a b c d = some (done ++ simF a b c d rest i) := by
  induction rest with
  | nil =>
    intro k pre done a b c d n i h1 h2 h3 h4 h5
    obtain ⟨k, rfl⟩ : ∃ m, k = m + 1 := ⟨k - 1, by omega⟩
    simp only [scheduler_Simulate.l0]
    rw [if_neg (by simp at h3; omega)]
    simp [simF]
  | cons f fs ih =>
    intro k pre done a b c d n i h1 h2 h3 h4 h5
    obtain ⟨k, rfl⟩ : ∃ m, k = m + 1 := ⟨k - 1, by omega⟩
    simp only [List.length_append, List.length_cons] at h3 h4 h5
    have ew : wrap64 (i + 1) = i + 1 := by unfold wrap64; omega
    have el : pre ++ f :: fs = (pre ++ [f]) ++ fs := by simp
    simp only [scheduler_Simulate.l0, ready_eq, Option.bind_some, simF]
    rw [if_pos (by omega), ew]
    by_cases hr : rdy d i = true
    · have hr' := hr
      unfold rdy at hr'
      rw [if_pos hr', if_pos hr, if_pos (by omega), if_pos (by simp; omega)]
      subst h2
      rw [rd_mid, tk_eq]
      simp only [Option.bind_some]
      rw [if_pos (by simp; omega)]
      have es : (done ++ List.replicate (f :: fs).length false).set (pre.length : Int).toNat (tk a b c d pre.length f).2.2.2.2 = (done ++ [(tk a b c d pre.length f).2.2.2.2]) ++ List.replicate fs.length false := by
        rw [Int.toNat_natCast, ← h1, List.set_append_right _ _ (Nat.le_refl _), Nat.sub_self]
        simp [List.replicate_succ]
      rw [es, el, ih k (pre ++ [f]) _ _ _ _ _ n _ (by simp [h1]) (by simp) (by simp; omega) (by simp; omega) (by omega)]
      simp
    · have hr' := hr
      unfold rdy at hr'
      rw [if_neg hr', if_neg hr]
      have es : done ++ List.replicate (f :: fs).length false = (done ++ [false]) ++ List.replicate fs.length false := by simp [List.replicate_succ]
      rw [es, el, ih k (pre ++ [f]) (done ++ [false]) _ _ _ _ n _ (by simp [h1]) (by simp [h2]) (by simp; omega) (by simp; omega) (by omega)]
      simp
theorem sim_eq (k : Nat) (l : List Int) (h : l.length ≤ 1000) (hk : l.length < k) (a b c d : Int) : scheduler_Simulate.f k a b c d l = some (simF a b c d l 0) := by
  unfold scheduler_Simulate.f
  rw [if_pos (by omega), if_pos (by omega), Int.toNat_natCast]
  have := sim_at l k [] [] a b c d (l.length : Int) 0 rfl rfl (by simp) (by simpa using h) hk
  simpa using this

end Go.Proofs.Ytfocgjcfalhglaa.QAll
