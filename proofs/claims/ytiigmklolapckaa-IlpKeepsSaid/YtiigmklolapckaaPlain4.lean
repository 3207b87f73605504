/- What propagation keeps, in plain lists. Condition: a valid problem. -/
import Derived.Test.YtiigmklolapckaaPlain3
import Derived.Test.YtiigmklolapckaaPlainB
namespace Go.Proofs.Ytiigmklolapckaa.Plain
open Go.RowKit Go.Proofs.YtiigmklolapckaaW.PrintWords Go.Proofs.YtiigmklolapckaaW.PrintLast Go.Proofs.YtiigmklolapckaaW.PrintMore Go.Proofs.Ytiigmklolapckaa.QAll
set_option linter.unusedVariables false

theorem wrap_id {a : Int} (h0 : -9223372036854775808 ≤ a) (h1 : a ≤ 9223372036854775807) : wrap64 a = a := by unfold wrap64; omega
theorem rd_set {x : List Int} {i v b : Int} (hi : 0 ≤ i) (hi2 : i < x.length) (hv : 0 ≤ v) : rd (x.set i.toNat b) v = if v = i then b else rd x v := by
  unfold rd
  rw [List.getD_eq_getElem?_getD, List.getD_eq_getElem?_getD, List.getElem?_set]
  by_cases e : v = i
  · subst e; rw [if_pos rfl, if_pos rfl, if_pos (by omega)]; rfl
  · rw [if_neg (by omega), if_neg e]
/-! ### sums without wrapping -/
def sumZ : List S45 → List Bool → Int
  | [], _ => 0
  | c :: cs, s => (if rdOf false s c.f0 = true then c.f1 else 0) + sumZ cs s
def reachZ : List S45 → List Int → Int
  | [], _ => 0
  | c :: cs, x => (if rd x c.f0 = 1 then c.f1 else if rd x c.f0 = -1 then (if c.f1 > 0 then c.f1 else 0) else 0) + reachZ cs x
theorem sumB_eq (s : List Bool) (L : List S45) (a : Int) (hc : ∀ c ∈ L, -1048576 ≤ c.f1 ∧ c.f1 ≤ 1048576) (h0 : -1152921504606846976 + L.length * 1048576 ≤ a) (h1 : a ≤ 1152921504606846976 - L.length * 1048576) : sumB L s a = a + sumZ L s := by
  induction L generalizing a with
  | nil => simp [sumB, sumZ]
  | cons c cs ih =>
    have hb := hc c List.mem_cons_self
    have hl : ((c :: cs).length : Int) = cs.length + 1 := by simp
    rw [hl] at h0 h1
    have ih := fun a h0 h1 => ih a (fun c h => hc c (List.mem_cons_of_mem _ h)) h0 h1
    simp only [sumB, sumZ]
    by_cases e : rdOf false s c.f0 = true
    · rw [if_pos e, if_pos e, wrap_id (by omega) (by omega), ih _ (by omega) (by omega)]; omega
    · rw [if_neg e, if_neg e, ih _ (by omega) (by omega)]; omega
theorem reachP_eq (x : List Int) (L : List S45) (a : Int) (hc : ∀ c ∈ L, -1048576 ≤ c.f1 ∧ c.f1 ≤ 1048576) (h0 : -1152921504606846976 + L.length * 1048576 ≤ a) (h1 : a ≤ 1152921504606846976 - L.length * 1048576) : reachP L x a = a + reachZ L x := by
  induction L generalizing a with
  | nil => simp [reachP, reachZ]
  | cons c cs ih =>
    have hb := hc c List.mem_cons_self
    have hl : ((c :: cs).length : Int) = cs.length + 1 := by simp
    rw [hl] at h0 h1
    have ih := fun a h0 h1 => ih a (fun c h => hc c (List.mem_cons_of_mem _ h)) h0 h1
    simp only [reachP, reachZ]
    by_cases e : rd x c.f0 = 1
    · rw [if_pos e, if_pos e, wrap_id (by omega) (by omega), ih _ (by omega) (by omega)]; omega
    · rw [if_neg e, if_neg e]
      by_cases e2 : rd x c.f0 = -1
      · rw [if_pos e2, if_pos e2]
        by_cases e3 : c.f1 > 0
        · rw [if_pos e3, if_pos e3, wrap_id (by omega) (by omega), ih _ (by omega) (by omega)]; omega
        · rw [if_neg e3, if_neg e3, ih _ (by omega) (by omega)]; omega
      · rw [if_neg e2, if_neg e2, ih _ (by omega) (by omega)]; omega
theorem reachZ_range (x : List Int) : ∀ (L : List S45), (∀ c ∈ L, -1048576 ≤ c.f1 ∧ c.f1 ≤ 1048576) → -(L.length * 1048576 : Int) ≤ reachZ L x ∧ reachZ L x ≤ L.length * 1048576
  | [], _ => by simp [reachZ]
  | c :: cs, hc => by
    have hb := hc c List.mem_cons_self
    have hl : ((c :: cs).length : Int) = cs.length + 1 := by simp
    have ih := reachZ_range x cs (fun c h => hc c (List.mem_cons_of_mem _ h))
    rw [hl]
    simp only [reachZ]
    repeat' split
    all_goals omega
/-! ### agreement -/
/-- s agrees with x. -/
def Agr (x : List Int) (s : List Bool) : Prop := ∀ v : Int, 0 ≤ v → v < x.length → (rd x v = 1 → rdOf false s v = true) ∧ (rd x v = 0 → rdOf false s v = false)
/-- x tells 0, 1 or nothing of each variable. -/
def Tri (x : List Int) : Prop := ∀ v : Int, 0 ≤ v → v < x.length → rd x v = -1 ∨ rd x v = 0 ∨ rd x v = 1
theorem rangeP_iff : ∀ x : List Int, rangeP x = true ↔ ∀ v ∈ x, -1 ≤ v ∧ v ≤ 1
  | [] => by simp [rangeP]
  | v :: vs => by simp [rangeP, rangeP_iff vs, and_assoc]
theorem rd_mem {x : List Int} {v : Int} (h0 : 0 ≤ v) (h1 : v < x.length) : rd x v ∈ x := by
  have := rd_lt h0 h1
  exact List.mem_of_getElem? this
theorem tri_of {x : List Int} (h : rangeP x = true) : Tri x := fun v h0 h1 => by have := (rangeP_iff x).1 h _ (rd_mem h0 h1); omega
theorem sum_le {x : List Int} {s : List Bool} (ha : Agr x s) (ht : Tri x) : ∀ {L : List S45}, (∀ c ∈ L, 0 ≤ c.f0 ∧ c.f0 < x.length) → sumZ L s ≤ reachZ L x
  | [], _ => Int.le_refl _
  | c :: cs, hc => by
    have h := hc c List.mem_cons_self
    have ih := sum_le ha ht (fun c h => hc c (List.mem_cons_of_mem _ h))
    have ha := ha c.f0 h.1 h.2
    simp only [sumZ, reachZ]
    rcases ht c.f0 h.1 h.2 with e | e | e
    · rw [if_neg (by omega : ¬ rd x c.f0 = 1), if_pos e]
      repeat' split
      all_goals omega
    · rw [if_neg (by omega : ¬ rd x c.f0 = 1), if_neg (by omega : ¬ rd x c.f0 = -1), ha.2 e]; simp; exact ih
    · rw [if_pos e, ha.1 e]; simp; exact ih
theorem sum_force {x : List Int} {s : List Bool} (ha : Agr x s) (ht : Tri x) {d : S45} (ho : rd x d.f0 = -1) : ∀ {L : List S45}, (∀ c ∈ L, 0 ≤ c.f0 ∧ c.f0 < x.length) → d ∈ L →
    (d.f1 > 0 → rdOf false s d.f0 = false → sumZ L s ≤ reachZ L x - d.f1) ∧ (d.f1 < 0 → rdOf false s d.f0 = true → sumZ L s ≤ reachZ L x + d.f1)
  | [], _, h => by cases h
  | c :: cs, hc, h => by
    rcases List.mem_cons.1 h with rfl | h
    · have := sum_le ha ht (fun c h => hc c (List.mem_cons_of_mem _ h))
      simp only [sumZ, reachZ]
      rw [if_neg (by omega : ¬ rd x d.f0 = 1), if_pos ho]
      constructor
      · intro h1 h2; rw [h2, if_pos h1, if_neg (by simp)]; omega
      · intro h1 h2; rw [h2, if_neg (by omega : ¬ d.f1 > 0), if_pos rfl]; omega
    · have ih := sum_force ha ht ho (fun c h => hc c (List.mem_cons_of_mem _ h)) h
      have h1 := sum_le ha ht (L := [c]) (fun e he => by rw [List.mem_singleton] at he; subst he; exact hc _ List.mem_cons_self)
      simp only [sumZ, reachZ] at h1 ⊢
      constructor
      · intro h2 h3; have := ih.1 h2 h3; omega
      · intro h2 h3; have := ih.2 h2 h3; omega
/-! ### a round keeps the solutions -/
/-- s is a solution. -/
def Sol (p1 : List S43) (s : List Bool) : Prop := ∀ r ∈ p1, r.f1 ≤ sumZ r.f0 s
section
variable {p0 : List Int} {p1 : List S43} (hV : Valid p0 p1)
include hV
theorem Valid.len64 {r : S43} (hr : r ∈ p1) : r.f0.length ≤ 64 := (row_ok (hV.rows r hr)).2.2.2
theorem Valid.least {r : S43} (hr : r ∈ p1) : -1099511627776 ≤ r.f1 ∧ r.f1 ≤ 1099511627776 := by
  have := (row_ok (hV.rows r hr)).2.1; omega
theorem reach_plain {r : S43} (hr : r ∈ p1) (x : List Int) : reachP r.f0 x 0 = reachZ r.f0 x := by
  have := hV.len64 hr
  rw [reachP_eq x r.f0 0 (fun c hc => by have := hV.var hr hc; omega) (by omega) (by omega)]; omega
theorem reach_small {r : S43} (hr : r ∈ p1) (x : List Int) : -67108864 ≤ reachZ r.f0 x ∧ reachZ r.f0 x ≤ 67108864 := by
  have := hV.len64 hr
  have := reachZ_range x r.f0 (fun c hc => by have := hV.var hr hc; omega)
  omega
theorem holds_plain {r : S43} (hr : r ∈ p1) (s : List Bool) : holdsB r s = decide (r.f1 ≤ sumZ r.f0 s) := by
  have := hV.len64 hr
  unfold holdsB
  rw [sumB_eq s r.f0 0 (fun c hc => by have := hV.var hr hc; omega) (by omega) (by omega), Int.zero_add]
theorem feas_plain (s : List Bool) (hc : (chk p0 p1).2 = 0) : feas p0 p1 s = true ↔ s.length = p0.length ∧ Sol p1 s := by
  unfold feas
  simp only [hc, decide_true, Bool.true_and, Bool.and_eq_true, decide_eq_true_eq, List.all_eq_true]
  constructor
  · rintro ⟨h1, h2⟩; exact ⟨h1, fun r hr => by have := h2 r hr; rw [holds_plain hV hr] at this; simpa using this⟩
  · rintro ⟨h1, h2⟩; exact ⟨h1, fun r hr => by rw [holds_plain hV hr]; simpa using h2 r hr⟩
omit hV in
theorem set_agr {x : List Int} {s : List Bool} (ha : Agr x s) {v b : Int} (h0 : 0 ≤ v) (h1 : v < x.length) (hb : b = 1 ∧ rdOf false s v = true ∨ b = 0 ∧ rdOf false s v = false) : Agr (x.set v.toNat b) s := by
  intro w hw0 hw1
  rw [List.length_set] at hw1
  rw [rd_set h0 h1 hw0]
  by_cases e : w = v
  · subst e; rw [if_pos rfl]
    rcases hb with ⟨rfl, h⟩ | ⟨rfl, h⟩
    · exact ⟨fun _ => h, fun h => by omega⟩
    · exact ⟨fun h => by omega, fun _ => h⟩
  · rw [if_neg e]; exact ha w hw0 hw1
omit hV in
theorem set_tri {x : List Int} (ht : Tri x) {v b : Int} (h0 : 0 ≤ v) (h1 : v < x.length) (hb : b = 0 ∨ b = 1) : Tri (x.set v.toNat b) := by
  intro w hw0 hw1
  rw [List.length_set] at hw1
  rw [rd_set h0 h1 hw0]
  by_cases e : w = v
  · rw [if_pos e]; omega
  · rw [if_neg e]; exact ht w hw0 hw1
/-- One round. -/
theorem step_sound {x : List Int} {s : List Bool} (hx : x.length = p0.length) (ht : Tri x) (hs : Sol p1 s) (ha : Agr x s) : (stepP p1 x).1 ≠ 0 ∧ Agr (stepP p1 x).2 s := by
  have h0 : ∀ l : List S43, (∀ r ∈ l, r ∈ p1) → (stepP l x).1 ≠ 0 := by
    intro l
    induction l with
    | nil => intro _; simp [stepP]
    | cons r rs ih =>
      intro hl
      have hr := hl r List.mem_cons_self
      simp only [stepP]
      rw [reach_plain hV hr]
      have h1 := sum_le ha ht (L := r.f0) (fun c hc => by have := hV.var hr hc; omega)
      have h2 := hs r hr
      rw [if_neg (by omega)]
      cases forceP (reachZ r.f0 x) r.f1 r.f0 x with
      | some q => simp
      | none => exact ih (fun r h => hl r (List.mem_cons_of_mem _ h))
  refine ⟨h0 p1 (fun _ h => h), ?_⟩
  have hv : ∀ r ∈ p1, ∀ c ∈ r.f0, 0 ≤ c.f0 ∧ c.f0 < x.length := fun r hr c hc => by have := hV.var hr hc; omega
  by_cases e : (stepP p1 x).1 = 1
  · obtain ⟨r, hr, q, hq, e2⟩ := stepP_one hv e
    obtain ⟨c, hc, e3, e4, e5⟩ := forceP_some (hv r hr) hq
    have hcv := hV.var hr hc
    have hrs := reach_small hV hr x
    have hl := hs r hr
    have hf := sum_force ha ht e4 (hv r hr) hc
    rw [e2, e3]
    rw [reach_plain hV hr] at e5
    refine set_agr ha (hv r hr c hc).1 (hv r hr c hc).2 ?_
    rcases e5 with ⟨h1, h2, h3⟩ | ⟨h1, h2, h3⟩
    · rw [wrap_id (by omega) (by omega)] at h3
      cases hb : rdOf false s c.f0
      · have := hf.1 h2 hb; omega
      · exact .inl ⟨h1, rfl⟩
    · rw [wrap_id (by omega) (by omega)] at h3
      cases hb : rdOf false s c.f0
      · exact .inr ⟨h1, rfl⟩
      · have := hf.2 h2 hb; omega
  · rw [(stepP_ne_one e).1]; exact ha
/-- What a round leaves: the length, the range, and what was told before. -/
theorem step_keeps {x : List Int} (hx : x.length = p0.length) (ht : Tri x) : (stepP p1 x).2.length = p0.length ∧ Tri (stepP p1 x).2 ∧ ∀ v : Int, 0 ≤ v → v < x.length → rd x v ≠ -1 → rd (stepP p1 x).2 v = rd x v := by
  have hv : ∀ r ∈ p1, ∀ c ∈ r.f0, 0 ≤ c.f0 ∧ c.f0 < x.length := fun r hr c hc => by have := hV.var hr hc; omega
  by_cases e : (stepP p1 x).1 = 1
  · obtain ⟨r, hr, q, hq, e2⟩ := stepP_one hv e
    obtain ⟨c, hc, e3, e4, e5⟩ := forceP_some (hv r hr) hq
    have hcv := hv r hr c hc
    rw [e2, e3]
    refine ⟨by rw [List.length_set]; exact hx, set_tri ht hcv.1 hcv.2 (by rcases e5 with h | h <;> simp [h.1]), fun v h0 h1 h2 => ?_⟩
    rw [rd_set hcv.1 hcv.2 h0, if_neg (by rintro rfl; exact h2 e4)]
  · rw [(stepP_ne_one e).1]; exact ⟨hx, ht, fun _ _ _ _ => rfl⟩
theorem run_sound {s : List Bool} (hs : Sol p1 s) : ∀ (n : Nat) {x : List Int}, x.length = p0.length → Tri x → Agr x s → (runP p1 n x).1 = true ∧ Agr (runP p1 n x).2 s
  | 0, x, _, _, ha => ⟨rfl, ha⟩
  | n + 1, x, hx, ht, ha => by
    have h := step_sound hV hx ht hs ha
    have hk := step_keeps hV hx ht
    simp only [runP]
    rw [if_neg h.1]
    by_cases e : (stepP p1 x).1 = 1
    · rw [if_pos e]; exact run_sound hs n hk.1 hk.2.1 h.2
    · rw [if_neg e]; exact ⟨rfl, h.2⟩
theorem run_keeps : ∀ (n : Nat) {x : List Int}, x.length = p0.length → Tri x → (runP p1 n x).2.length = p0.length ∧ Tri (runP p1 n x).2 ∧ ∀ v : Int, 0 ≤ v → v < x.length → rd x v ≠ -1 → rd (runP p1 n x).2 v = rd x v
  | 0, x, hx, ht => ⟨hx, ht, fun _ _ _ _ => rfl⟩
  | n + 1, x, hx, ht => by
    have hk := step_keeps hV hx ht
    simp only [runP]
    by_cases e0 : (stepP p1 x).1 = 0
    · rw [if_pos e0]; exact hk
    · rw [if_neg e0]
      by_cases e : (stepP p1 x).1 = 1
      · rw [if_pos e]
        have ih := run_keeps n hk.1 hk.2.1
        refine ⟨ih.1, ih.2.1, fun v h0 h1 h2 => ?_⟩
        have h3 := hk.2.2 v h0 h1 h2
        rw [ih.2.2 v h0 (by omega) (by omega), h3]
      · rw [if_neg e]; exact hk
end
end Go.Proofs.Ytiigmklolapckaa.Plain
