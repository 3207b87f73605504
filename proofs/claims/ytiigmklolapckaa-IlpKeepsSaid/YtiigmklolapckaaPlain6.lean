/- The law Keeps, in plain lists. No condition. -/
import Derived.Test.YtiigmklolapckaaPlain5
import Derived.Test.YtiigmklolapckaaQAllx19
namespace Go.Proofs.Ytiigmklolapckaa.Plain
open Go.RowKit Go.Proofs.YtiigmklolapckaaW.PrintWords Go.Proofs.YtiigmklolapckaaW.PrintLast Go.Proofs.YtiigmklolapckaaW.PrintMore Go.Proofs.Ytiigmklolapckaa.QAll
set_option linter.unusedVariables false

section
variable (p0 : List Int) (p1 : List S43) (x y : List Int) (ok : Bool)
theorem keeps_l2 (hy : y.length = x.length) (hx : x.length ≤ 9) (hk2 : ∀ v : Int, 0 ≤ v → v < x.length → rd x v ≠ -1 → rd y v = rd x v) : ∀ (m i k : Nat), i + m = x.length → m + 300 < k → saturatelaw41_IlpKeeps.l2 k x y (i : Int) = some true := by
  intro m
  induction m with
  | zero =>
    intro i k hi hk
    obtain ⟨k, rfl, hk⟩ := fuel hk
    simp only [saturatelaw41_IlpKeeps.l2]
    rw [if_neg (by omega), lives_eq k (by omega)]
    rfl
  | succ m ih =>
    intro i k hi hk
    obtain ⟨k, rfl, hk⟩ := fuel hk
    simp only [saturatelaw41_IlpKeeps.l2]
    rw [if_pos (by omega), if_pos (by omega), wrap_nat i (by omega), ih (i + 1) k (by omega) (by omega)]
    by_cases e : rd x (i : Int) = -1
    · rw [if_pos e]
    · rw [if_neg e, if_pos (by omega), if_pos (hk2 i (by omega) (by omega) e)]
theorem keeps_l1 (hF : Few 70 p0 p1) (hc : (chk p0 p1).2 = 0) (hl : x.length = p0.length) (hy : y.length = x.length) (hx : x.length ≤ 9) (hk2 : ∀ v : Int, 0 ≤ v → v < x.length → rd x v ≠ -1 → rd y v = rd x v)
    (hs : ∀ s, s.length = x.length → Sol p1 s → Agr x s → ok = true ∧ Agr y s) : ∀ (m i k : Nat), i + m = 2 ^ x.length → 2 * m + 10000 < k → saturatelaw41_IlpKeeps.l1 k x y ok (i : Int) p0 p1 = some true := by
  intro m
  induction m with
  | zero =>
    intro i k hi hk
    obtain ⟨k, rfl, hk⟩ := fuel hk
    simp only [saturatelaw41_IlpKeeps.l1]
    rw [shl_pow x.length (by omega), u64_small x.length (by omega), if_pos (by omega), if_neg (by omega)]
    exact keeps_l2 x y hy hx hk2 x.length 0 k (by omega) (by omega)
  | succ m ih =>
    intro i k hi hk
    obtain ⟨k, rfl, hk⟩ := fuel hk
    have hi2 : i < 2 ^ x.length := by omega
    have h512 : 2 ^ x.length ≤ 2 ^ 9 := Nat.pow_le_pow_right (by omega) hx
    simp only [saturatelaw41_IlpKeeps.l1]
    rw [shl_pow x.length (by omega), u64_small x.length (by omega), if_pos (by omega), if_pos (by omega), ass_eq i x.length k (by omega) (by omega), Option.bind_some, rfeas_eq p0 p1 hF _ k (by omega), Option.bind_some]
    obtain ⟨b, hb, hbi⟩ := agr_eq x (bits i x.length) (bits_len i _) (by omega) k (by omega)
    obtain ⟨k, rfl, hk⟩ := fuel (show 2 * m + 10000 < k by omega)
    have ih := ih (i + 1) k (by omega) (by omega)
    by_cases e : feas p0 p1 (bits i x.length) = true
    · rw [if_pos e, hb, Option.bind_some]
      simp only [saturatelaw41_IlpKeeps.j3]
      rw [wrap_nat i (by omega), ih]
      by_cases hbt : b = true
      · rw [if_neg (by simp [hbt])]
        have h1 := hs _ (bits_len i _) ((feas_plain (chk_ok hc) _ hc).1 e).2 (hbi.1 hbt)
        obtain ⟨b2, hb2, hbi2⟩ := agr_eq y (bits i x.length) (by rw [bits_len, hy]) (by omega) k (by omega)
        rw [if_pos h1.1, hb2, Option.bind_some, if_pos (hbi2.2 h1.2)]
      · rw [if_pos (by simp [hbt])]
    · rw [if_neg e]
      simp only [saturatelaw41_IlpKeeps.j3]
      rw [wrap_nat i (by omega), ih, if_pos trivial]
theorem keeps_l0 (hF : Few 70 p0 p1) (hc : (chk p0 p1).2 = 0) (hl : x.length = p0.length) (hx : x.length ≤ 9) : ∀ (m i k : Nat), i + m = x.length → m + 40000 < k → (∀ v ∈ x.take i, -1 ≤ v ∧ v ≤ 1) → saturatelaw41_IlpKeeps.l0 k x (i : Int) p0 p1 = some true := by
  intro m
  induction m with
  | zero =>
    intro i k hi hk hq
    obtain ⟨k, rfl, hk⟩ := fuel hk
    rw [List.take_of_length_le (by omega)] at hq
    have hr : rangeP x = true := (rangeP_iff x).2 hq
    have hV := chk_ok hc
    have hp : partP p0 p1 x = true := by unfold partP; simp [hc, hl, hr]
    have hk2 := run_keeps hV 1000 hl (tri_of hr)
    simp only [saturatelaw41_IlpKeeps.l0]
    rw [if_neg (by omega), Prop_eq p0 p1 hF x (by omega) k (by omega), Option.bind_some, if_pos hp]
    simp only
    rw [if_pos (by omega)]
    have h512 : 2 ^ x.length ≤ 2 ^ 9 := Nat.pow_le_pow_right (by omega) hx
    exact keeps_l1 p0 p1 x _ _ hF hc hl (by omega) hx hk2.2.2 (fun s h1 h2 h3 => run_sound hV h2 1000 hl (tri_of hr) h3) (2 ^ x.length) 0 k (by omega) (by omega)
  | succ m ih =>
    intro i k hi hk hq
    obtain ⟨k, rfl, hk⟩ := fuel hk
    have hil : i < x.length := by omega
    have e : rd x (i : Int) = x[i] := by simp [rd, List.getD_eq_getElem?_getD, List.getElem?_eq_getElem hil]
    simp only [saturatelaw41_IlpKeeps.l0]
    rw [if_pos (by omega), if_pos (by omega), wrap_nat i (by omega), lives_eq k (by omega)]
    by_cases a : rd x (i : Int) < -1
    · rw [if_pos a]; rfl
    · rw [if_neg a]
      by_cases b : rd x (i : Int) > 1
      · rw [if_pos b]; rfl
      · rw [if_neg b]
        refine ih (i + 1) k (by omega) (by omega) (fun v hv => ?_)
        rw [List.take_succ_eq_append_getElem hil] at hv
        rcases List.mem_append.1 hv with hv | hv
        · exact hq v hv
        · have : v = rd x (i : Int) := by rw [e]; simpa using hv
          omega
end
/-- The law Keeps. -/
theorem Keeps (p0 : List Int) (p1 : List S43) (x : List Int) : saturatelaw41_IlpKeeps.f 50000 p0 p1 x = some true := by
  have hlv := lives_eq 49999 (by omega)
  have hb : ∀ b, b = true → saturatelaw41_IlpKeeps.j0 50000 x b p0 p1 = some true := by
    rintro b rfl
    simp only [saturatelaw41_IlpKeeps.j0]
    rw [if_pos trivial, hlv]; rfl
  unfold saturatelaw41_IlpKeeps.f
  obtain ⟨b, e, hF⟩ := few_eq 9 (by omega) p0 p1 50000 (by omega)
  rw [show ((9 : Nat) : Int) = 9 from rfl] at e
  rw [e, Option.bind_some]
  by_cases hbt : b = true
  · have hF := hF hbt
    have hc := hF.costs
    rw [if_pos hbt]
    by_cases hx : x.length = p0.length
    · rw [show ((x.length : Int) != (p0.length : Int)) = false by simp [hx]]
      simp only [saturatelaw41_IlpKeeps.j0]
      rw [if_neg (by simp), rcheck_eq p0 p1 (hF.mono (by omega)) _ (by omega), Option.bind_some]
      by_cases hck : (chk p0 p1).2 = 0
      · rw [if_pos hck]
        exact keeps_l0 p0 p1 x (hF.mono (by omega)) hck hx (by omega) x.length 0 49999 (by omega) (by omega) (by simp)
      · rw [if_neg hck, hlv]; rfl
    · exact hb _ (by simp; omega)
  · rw [if_neg hbt]; exact hb _ rfl
end Go.Proofs.Ytiigmklolapckaa.Plain
