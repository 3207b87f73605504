/- The union-find object in memory, and what its reading methods return. Condition of each contract: the object is a Sets with parents p and trail t, at most 1000 elements, each parent at most its element. -/
import Derived.Test.YtdjgnoofdhjicaaQAllx2
import Derived.Lib.Hide
namespace Go.Proofs.Ytdjgnoofdhjicaa.UF
open Go.RowKit Go.Proofs.YtdjgnoofdhjicaaW.PrintWords Go.Proofs.YtdjgnoofdhjicaaW.PrintLast Go.Proofs.YtdjgnoofdhjicaaW.PrintMore Go.Proofs.Ytdjgnoofdhjicaa.QAll
attribute [local go_sem] max2_int min2_int max_two min_two max_three min_three max_four min_four
set_option linter.unusedVariables false

/-- In w, block g is a Sets object with the parents p and the trail t; all its memory lies at B or behind. -/
def UF (B : Nat) (w : World) (g : Nat) (p : List Int) (t : List S53) : Prop :=
  B ≤ g ∧ ∃ vp vt, w.heap[g]? = some (.cells #[.bool true, vp, vt] 47 (0, 0)) ∧ Kd.R (Kd.int .i64) 3 w B (fun _ => True) vp p ∧ Kd.R k53 53 w B (fun _ => True) vt t

/-- Blocks of other types than the object's own are as they were. -/
def Other (w w' : World) : Prop :=
  w.heap.size ≤ w'.heap.size ∧ ∀ k, k < w.heap.size → (∀ cs e fr, w.heap[k]? = some (.cells cs e fr) → e ≠ 3 ∧ e ≠ 53 ∧ e ≠ 47) → w'.heap[k]? = w.heap[k]?

theorem UF.below {B : Nat} {w w' : World} {g : Nat} {p : List Int} {t : List S53} (h : UF B w g p t) (hb : Below w.heap.size w w') : UF B w' g p t := by
  obtain ⟨h1, vp, vt, h2, h3, h4⟩ := h
  exact ⟨h1, vp, vt, blk_below h2 hb, Kd.R_below h3 hb, Kd.R_below h4 hb⟩

set_option maxHeartbeats 400000 in
theorem valid_calls {B : Nat} {w : World} {g : Nat} {p : List Int} {t : List S53} (hU : UF B w g p t) : Calls Try.prog 22 #[.pointer (some ⟨g, 0, none⟩)] w fun e w' => e = .returned (.bool true) ∧ w = w' := by
  obtain ⟨hB, vp, vt, hb, hp, ht⟩ := hU
  have h0 : w.cell? ⟨g, 0, none⟩ = some (.bool true) := (blk_cell hb 0).trans rfl
  clear hb hp ht
  go_enter Try.func22, Try.ntmps22
  go_wp2
  go_ret
  exact ⟨rfl, rfl⟩

def inB (p : List Int) (x : Int) : Bool := decide (0 ≤ x) && decide (x < (p.length : Int))
theorem inB_yes {p : List Int} {x : Int} (h0 : 0 ≤ x) (h1 : x < p.length) : inB p x = true := by simp [inB, h0, h1]
theorem inB_no {p : List Int} {x : Int} (h : ¬ (0 ≤ x ∧ x < p.length)) : inB p x = false := by
  by_cases h0 : 0 ≤ x
  · have : ¬ x < p.length := fun h1 => h ⟨h0, h1⟩
    simp [inB, this]
  · simp [inB, h0]

set_option maxHeartbeats 400000 in
theorem has_calls {B : Nat} {w : World} {g : Nat} {p : List Int} {t : List S53} (hU : UF B w g p t) (hl : p.length ≤ 1000) (x : Int) : Calls Try.prog 23 #[.pointer (some ⟨g, 0, none⟩), .int .i64 x] w fun e w' => e = .returned (.bool (inB p x)) ∧ w = w' := by
  have hv := valid_calls hU
  obtain ⟨hB, vp, vt, hb, hp, ht⟩ := hU
  obtain ⟨A, c, rfl⟩ := Kd.R_slice hp
  have h1 : w.cell? ⟨g, 1, none⟩ = some (.slice A p.length c) := (blk_cell hb 1).trans rfl
  clear hb hp ht
  by_cases h0 : 0 ≤ x
  all_goals
    go_enter Try.func23, Try.ntmps23
    go_wp2_with (go_at_call 22; refine hv.mono ?_; rintro e w' ⟨rfl, rfl⟩)
    go_ret
    exact ⟨by first | (simp [inB, h0]; done) | (simp [inB]; omega), rfl⟩

set_option maxHeartbeats 400000 in
theorem len_calls {B : Nat} {w : World} {g : Nat} {p : List Int} {t : List S53} (hU : UF B w g p t) : Calls Try.prog 11 #[.pointer (some ⟨g, 0, none⟩)] w fun e w' => e = .returned (.int .i64 p.length) ∧ w = w' := by
  have hv := valid_calls hU
  obtain ⟨hB, vp, vt, hb, hp, ht⟩ := hU
  obtain ⟨A, c, rfl⟩ := Kd.R_slice hp
  have h1 : w.cell? ⟨g, 1, none⟩ = some (.slice A p.length c) := (blk_cell hb 1).trans rfl
  clear hb hp ht
  go_enter Try.func11, Try.ntmps11
  go_wp2_with (go_at_call 22; refine hv.mono ?_; rintro e w' ⟨rfl, rfl⟩)
  go_ret
  exact ⟨rfl, rfl⟩
set_option maxHeartbeats 400000 in
theorem mark_calls {B : Nat} {w : World} {g : Nat} {p : List Int} {t : List S53} (hU : UF B w g p t) : Calls Try.prog 15 #[.pointer (some ⟨g, 0, none⟩)] w fun e w' => e = .returned (.int .i64 t.length) ∧ w = w' := by
  have hv := valid_calls hU
  obtain ⟨hB, vp, vt, hb, hp, ht⟩ := hU
  obtain ⟨A, c, rfl⟩ := Kd.R_slice ht
  have h1 : w.cell? ⟨g, 2, none⟩ = some (.slice A t.length c) := (blk_cell hb 2).trans rfl
  clear hb hp ht
  go_enter Try.func15, Try.ntmps15
  go_wp2_with (go_at_call 22; refine hv.mono ?_; rintro e w' ⟨rfl, rfl⟩)
  go_ret
  exact ⟨rfl, rfl⟩

/-- The root of an element: its parent's, and so on. -/
def root (p : List Int) : Nat → Int → Int
  | 0, x => x
  | n + 1, x => if rd p x = x then x else root p n (rd p x)
def Well (p : List Int) : Prop := ∀ i : Int, 0 ≤ i → i < p.length → 0 ≤ rd p i ∧ rd p i ≤ i
theorem root_fuel {p : List Int} (hW : Well p) : ∀ (m n : Nat) (y : Int), 0 ≤ y → y < p.length → y.toNat ≤ m → y.toNat ≤ n → root p m y = root p n y := by
  intro m
  induction m with
  | zero =>
    intro n y h0 h1 h2 h3
    have hy : y = 0 := by omega
    subst hy
    have := hW 0 (by omega) h1
    have e : rd p 0 = 0 := by omega
    cases n with
    | zero => rfl
    | succ n => simp [root, e]
  | succ m ih =>
    intro n y h0 h1 h2 h3
    have hw := hW y h0 h1
    simp only [root]
    by_cases e : rd p y = y
    · rw [if_pos e]
      cases n with
      | zero => rfl
      | succ n => simp [root, e]
    · rw [if_neg e]
      cases n with
      | zero => omega
      | succ n =>
        simp only [root]
        rw [if_neg e]
        exact ih n (rd p y) hw.1 (by omega) (by omega) (by omega)
def rt (p : List Int) (y : Int) : Int := root p y.toNat y
theorem rt_end {p : List Int} {y : Int} (e : rd p y = y) : rt p y = y := by
  unfold rt
  cases y.toNat with
  | zero => rfl
  | succ n => simp [root, e]
theorem rt_step {p : List Int} (hW : Well p) {y : Int} (h0 : 0 ≤ y) (h1 : y < p.length) (e : ¬ rd p y = y) : rt p y = rt p (rd p y) := by
  have hw := hW y h0 h1
  unfold rt
  obtain ⟨n, hn⟩ : ∃ n, y.toNat = n + 1 := ⟨y.toNat - 1, by omega⟩
  rw [hn]
  simp only [root]
  rw [if_neg e]
  exact root_fuel hW _ _ _ hw.1 (by omega) (by omega) (by omega)
/-- What Find returns. -/
def fnd (p : List Int) (x : Int) : Int := if inB p x = true then rt p x else -1

theorem cell_at {B : Nat} {w : World} {b : Nat} {p : List Int} {n c : Nat} (hp : Kd.R (Kd.int .i64) 3 w B (fun _ => True) (.slice (some ⟨b, 0, none⟩) n c) p) (i : Int) (h0 : 0 ≤ i) (h1 : i < n) : w.cell? ⟨b, i.toNat, none⟩ = some (.int .i64 (rd p i)) :=
  (Kd.R_celln 0 hp i h0 h1).1

set_option maxHeartbeats 800000 in
theorem find_calls {B : Nat} {w : World} {g : Nat} {p : List Int} {t : List S53} (hU : UF B w g p t) (hl : p.length ≤ 1000) (hW : Well p) (x : Int) : Calls Try.prog 13 #[.pointer (some ⟨g, 0, none⟩), .int .i64 x] w fun e w' => e = .returned (.int .i64 (fnd p x)) ∧ w = w' := by
  have hh := has_calls hU hl x
  obtain ⟨hB, vp, vt, hb, hp, ht⟩ := hU
  by_cases hx : 0 ≤ x ∧ x < p.length
  · have hin := inB_yes hx.1 hx.2
    rw [hin] at hh
    have hf : fnd p x = rt p x := by unfold fnd; rw [if_pos hin]
    rw [hf]
    have Hin := Lib.hid hin
    clear hin hf
    obtain ⟨b, c, rfl, hbb, _, _⟩ := Kd.R_form hp (by omega)
    have h1 : w.cell? ⟨g, 1, none⟩ = some (.slice (some ⟨b, 0, none⟩) p.length c) := (blk_cell hb 1).trans rfl
    obtain ⟨h0x, h1x⟩ := hx
    have HP := Lib.hid hp
    have HW := Lib.hid hW
    clear hb hp ht hW
    go_enter Try.func13, Try.ntmps13
    go_wp2_with (go_at_call 23; refine hh.mono ?_; rintro e w' ⟨rfl, rfl⟩)
    go_loop [5] (fun r => ∃ y : Int, 0 ≤ y ∧ y < p.length ∧ r = .int .i64 y ∧ Hid (rt p x = rt p y)) (fun r => (intOf r).toNat)
    case atStart => exact ⟨x, h0x, h1x, rfl, rfl⟩
    case round =>
      obtain ⟨y, h0, h2, rfl, hr⟩ := hrel
      have hc := cell_at HP.out y h0 h2
      have hw := HW.out y h0 h2
      by_cases e : rd p y = y
      · have e1 : (rd p y == y) = true := by simpa using e
        have e2 : (rd p y != y) = false := by simpa using e
        have E := Lib.hid e
        clear e
        go_wp2
        go_ret
        exact ⟨by rw [hr.out, rt_end E.out]; rfl, rfl⟩
      · have e2 : (rd p y != y) = true := by simpa using e
        have hst := Lib.hid (rt_step HW.out h0 h2 e)
        have hlt : rd p y < y := by omega
        clear e
        go_wp2
        go_round
        case rel => exact ⟨rd p y, by omega, by omega, rfl, hr.out.trans hst.out⟩
        case measure => simp [intOf]; omega
  · have hin := inB_no hx
    rw [hin] at hh
    have hf : fnd p x = -1 := by unfold fnd; rw [hin]; rfl
    rw [hf]
    clear hin hf hb hp ht
    go_enter Try.func13, Try.ntmps13
    go_wp2_with (go_at_call 23; refine hh.mono ?_; rintro e w' ⟨rfl, rfl⟩)
    go_ret
    exact ⟨rfl, rfl⟩

set_option maxHeartbeats 400000 in
theorem same_calls {B : Nat} {w : World} {g : Nat} {p : List Int} {t : List S53} (hU : UF B w g p t) (hl : p.length ≤ 1000) (hW : Well p) (a b : Int) : Calls Try.prog 12 #[.pointer (some ⟨g, 0, none⟩), .int .i64 a, .int .i64 b] w fun e w' => e = .returned (.bool (inB p a && (fnd p a == fnd p b))) ∧ w = w' := by
  have hh := has_calls hU hl a
  have ha := find_calls hU hl hW a
  have hb := find_calls hU hl hW b
  clear hU
  cases hin : inB p a
  · rw [hin] at hh
    clear hin ha hb
    go_enter Try.func12, Try.ntmps12
    go_wp2_with (go_at_call 23; refine hh.mono ?_; rintro e w' ⟨rfl, rfl⟩)
    go_ret
    exact ⟨by simp, rfl⟩
  · rw [hin] at hh
    clear hin
    go_enter Try.func12, Try.ntmps12
    go_wp2_with (go_at_call 23; refine hh.mono ?_; rintro e w' ⟨rfl, rfl⟩)
    refine ha.mono ?_
    rintro e w' ⟨rfl, rfl⟩
    go_wp2_with fail
    refine hb.mono ?_
    rintro e w' ⟨rfl, rfl⟩
    go_wp2
    go_ret
    exact ⟨by simp, rfl⟩
end Go.Proofs.Ytdjgnoofdhjicaa.UF
