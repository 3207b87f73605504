/- What the law Equivalence tells: true, for every script and every three numbers. -/
import Derived.Test.YtdjgnoofdhjicaaAgree
namespace Go.Proofs.Ytdjgnoofdhjicaa.UF
open Go.RowKit Go.Proofs.YtdjgnoofdhjicaaW.PrintWords Go.Proofs.YtdjgnoofdhjicaaW.PrintLast Go.Proofs.YtdjgnoofdhjicaaW.PrintMore Go.Proofs.Ytdjgnoofdhjicaa.QAll
attribute [local go_sem] max2_int min2_int max_two min_two max_three min_three max_four min_four
set_option linter.unusedVariables false
set_option linter.unusedSimpArgs false

section
variable {w0 w : World} {g : Nat} {l : List S56} {v : Value}
theorem same_val (h : Hid (St w0 w g l v)) (hl : l.length ≤ 150) (a b : Int) (x : Bool) (hx : Hid (sm (lab l) a b = x)) :
    Calls Try.prog 12 #[.pointer (some ⟨g, 0, none⟩), .int .i64 a, .int .i64 b] w fun e w' => e = .returned (.bool x) ∧ w = w' := by
  have := same_st h hl a b
  rwa [hx.out] at this
theorem find_val (h : Hid (St w0 w g l v)) (hl : l.length ≤ 150) (a x : Int) (hx : Hid (rfnd (lab l) a = x)) :
    Calls Try.prog 13 #[.pointer (some ⟨g, 0, none⟩), .int .i64 a] w fun e w' => e = .returned (.int .i64 x) ∧ w = w' := by
  have := find_st h hl a
  rwa [hx.out] at this
end
/-- What the law asks of Same and Find, case by case. -/
inductive Eqv (L : List Int) (a b c : Int) : Prop
  | out (h : ¬ (0 ≤ a ∧ a < L.length)) (haa : sm L a a = false) (hab : sm L a b = false) (hba : sm L b a = false)
  | far (h0 : 0 ≤ a) (h1 : a < L.length) (haa : sm L a a = true) (hab : sm L a b = false) (hba : sm L b a = false)
  | two (r : Int) (h0 : 0 ≤ a) (h1 : a < L.length) (haa : sm L a a = true) (hab : sm L a b = true) (hba : sm L b a = true) (hbc : sm L b c = false) (ra : rfnd L a = r) (rb : rfnd L b = r) (hr : r ≤ b)
  | all (r : Int) (h0 : 0 ≤ a) (h1 : a < L.length) (haa : sm L a a = true) (hab : sm L a b = true) (hba : sm L b a = true) (hbc : sm L b c = true) (hac : sm L a c = true) (ra : rfnd L a = r) (rb : rfnd L b = r) (hr : r ≤ b)
theorem eqv {L P : List Int} (hi : Inv L P) (a b c : Int) : Eqv L a b c := by
  by_cases h : 0 ≤ a ∧ a < L.length
  · have ra := rfnd_rd h.1 h.2
    have la := hi.lo a h.1 h.2
    by_cases e : rfnd L b = rfnd L a
    · have hb : 0 ≤ b ∧ b < L.length := by have := rfnd_in (L := L) (x := b) (by omega); exact ⟨this.1, this.2.1⟩
      have rb := rfnd_rd hb.1 hb.2
      have lb := hi.lo b hb.1 hb.2
      by_cases e2 : rfnd L c = rfnd L a
      · refine .all (rfnd L a) h.1 h.2 ?_ ?_ ?_ ?_ ?_ rfl e (by omega) <;> unfold sm <;> simp [e, e2] <;> omega
      · refine .two (rfnd L a) h.1 h.2 ?_ ?_ ?_ ?_ rfl e (by omega) <;> unfold sm <;> simp [e] <;> omega
    · refine .far h.1 h.2 ?_ ?_ ?_ <;> unfold sm <;> simp <;> omega
  · have ra : rfnd L a = -1 := by unfold rfnd; rw [if_neg h]
    refine .out h ?_ ?_ ?_ <;> unfold sm <;> simp [ra]
    omega

theorem runl_ok (s : List S37) : Ok (runl s) := by
  induction s using snoc_ind with
  | nil => exact Ok.nil
  | snoc s a ih => rw [runl_snoc]; exact ih.nxt a

set_option maxHeartbeats 3200000 in
set_option maxRecDepth 100000 in
theorem equiv_calls (w : World) (As : Option Addr) (cs : Nat) (s : List S37) (a b c : Int) (hC : Kd.C k37 w As s.length s) (hc : s.length ≤ cs) :
    Calls Try.prog 4 #[.slice As s.length cs, .agg #[.int .i64 a, .int .i64 b, .int .i64 c]] w fun e w' => e = .returned (.bool true) ∧ Below w.heap.size w w' := by
  have HC := Lib.hid hC
  have hrl := runl_length s
  have hb0 := below_alloc (Below.refl w.heap.size w) (.cells #[.int .i64 a, .int .i64 b, .int .i64 c] 30)
  have hb1 := Lib.hid hb0.drew
  have hsz := Lib.hid hb0.drew.size
  have he := eqv (stt_inv (runl_ok s)) a b c
  clear hC hb0
  by_cases hl : s.length ≤ 40
  · have hlm : (runl s).length ≤ 150 := by omega
    rcases he with ⟨h, haa, hab, hba⟩ | ⟨h0, h1, haa, hab, hba⟩ | ⟨r, h0, h1, haa, hab, hba, hbc, ra, rb, hr⟩ | ⟨r, h0, h1, haa, hab, hba, hbc, hac, ra, rb, hr⟩
    all_goals
      have HAA := Lib.hid haa
      have HAB := Lib.hid hab
      have HBA := Lib.hid hba
      try have HBC := Lib.hid hbc
      try have HAC := Lib.hid hac
      try have HRA := Lib.hid ra
      try have HRB := Lib.hid rb
      try clear hbc
      try clear hac
      try clear ra
      try clear rb
      clear haa hab hba
    · by_cases h0 : 0 ≤ a
      all_goals
        try have h1 : ¬ a < (lab (runl s)).length := fun h2 => h ⟨h0, h2⟩
        clear h
        go_enter Try.func4, Try.ntmps4
        go_wp2
        go_region
        go_wp2_with fail
        refine (new_calls w.heap.size _ hsz.out).mono ?_
        rintro e w1 ⟨g, rfl, hU, hB⟩
        have HS := Lib.hid (St.new hU (below_step hb1.out hB))
        clear hU hB hsz hb1
        go_wp2_with (first
          | (go_at_call 10; refine (run_calls HS.out HC.out (by omega)).mono ?_; rintro e w2 ⟨v2, rfl, hS2⟩; obtain ⟨A2, c2, hv2, hc2, hC2⟩ := hS2.read; subst hv2; have HS2 := Lib.hid hS2; clear hS2 hC2)
          | (go_at_call 11; refine (len_st HS2).mono ?_; rintro e w3 ⟨rfl, rfl⟩)
          | (go_at_call 12; refine (same_val HS2 hlm _ _ _ (by assumption)).mono ?_; rintro e w3 ⟨rfl, rfl⟩)
          | (go_at_call 13; refine (find_val HS2 hlm _ _ (by assumption)).mono ?_; rintro e w3 ⟨rfl, rfl⟩)
          | (go_at_call 9; refine (lives_st HS2.out).mono ?_; rintro e w3 ⟨rfl, hB3⟩))
        go_ret
        exact ⟨rfl, hB3⟩
    all_goals
      go_enter Try.func4, Try.ntmps4
      go_wp2
      go_region
      go_wp2_with fail
      refine (new_calls w.heap.size _ hsz.out).mono ?_
      rintro e w1 ⟨g, rfl, hU, hB⟩
      have HS := Lib.hid (St.new hU (below_step hb1.out hB))
      clear hU hB hsz hb1
      go_wp2_with (first
        | (go_at_call 10; refine (run_calls HS.out HC.out (by omega)).mono ?_; rintro e w2 ⟨v2, rfl, hS2⟩; obtain ⟨A2, c2, hv2, hc2, hC2⟩ := hS2.read; subst hv2; have HS2 := Lib.hid hS2; clear hS2 hC2)
        | (go_at_call 11; refine (len_st HS2).mono ?_; rintro e w3 ⟨rfl, rfl⟩)
        | (go_at_call 12; refine (same_val HS2 hlm _ _ _ (by assumption)).mono ?_; rintro e w3 ⟨rfl, rfl⟩)
        | (go_at_call 13; refine (find_val HS2 hlm _ _ (by assumption)).mono ?_; rintro e w3 ⟨rfl, rfl⟩)
        | (go_at_call 9; refine (lives_st HS2.out).mono ?_; rintro e w3 ⟨rfl, hB3⟩))
      go_ret
      exact ⟨rfl, hB3⟩
  · clear he
    go_enter Try.func4, Try.ntmps4
    go_wp2
    go_region
    go_wp2_with fail
    refine (new_calls w.heap.size _ hsz.out).mono ?_
    rintro e w1 ⟨g, rfl, hU, hB⟩
    have HS := Lib.hid (St.new hU (below_step hb1.out hB))
    clear hU hB
    go_wp2_with (go_at_call 9; refine (lives_st HS.out).mono ?_; rintro e w3 ⟨rfl, hB3⟩)
    go_ret
    exact ⟨rfl, hB3⟩
end Go.Proofs.Ytdjgnoofdhjicaa.UF
