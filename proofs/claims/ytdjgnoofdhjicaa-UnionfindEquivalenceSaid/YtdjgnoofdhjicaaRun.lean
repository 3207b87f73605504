/- What the law's run and lives tell. Condition of run: the object is new, and there are at most 100 acts. -/
import Derived.Test.YtdjgnoofdhjicaaStep3
namespace Go.Proofs.Ytdjgnoofdhjicaa.UF
open Go.RowKit Go.Proofs.YtdjgnoofdhjicaaW.PrintWords Go.Proofs.YtdjgnoofdhjicaaW.PrintLast Go.Proofs.YtdjgnoofdhjicaaW.PrintMore Go.Proofs.Ytdjgnoofdhjicaa.QAll
attribute [local go_sem] max2_int min2_int max_two min_two max_three min_three max_four min_four
set_option linter.unusedVariables false
set_option linter.unusedSimpArgs false

theorem well012 : Well [0, 1, 2] := by
  intro i h0 h1
  have h1' : i < 3 := h1
  have : i = 0 ∨ i = 1 ∨ i = 2 := by omega
  rcases this with rfl | rfl | rfl <;> decide
theorem well011 : Well [0, 1, 1] := by
  intro i h0 h1
  have h1' : i < 3 := h1
  have : i = 0 ∨ i = 1 ∨ i = 2 := by omega
  rcases this with rfl | rfl | rfl <;> decide

set_option maxHeartbeats 3200000 in
theorem lives_calls (w : World) : Calls Try.prog 9 #[] w fun e w' => e = .returned (.bool true) ∧ Below w.heap.size w w' := by
  go_enter Try.func9, Try.ntmps9
  go_wp2_with fail
  refine (new_calls w.heap.size w (Nat.le_refl _)).mono ?_
  rintro e w1 ⟨g, rfl, hU, hB⟩
  have HU := Lib.hid hU
  have HB := Lib.hid hB
  clear hU hB
  go_wp2_with fail
  refine (make_calls HU.out HB.out (by decide) (by decide)).mono ?_
  rintro e w2 ⟨rfl, hU, hB, _⟩
  have HU2 : Hid (UF w.heap.size w2 g [0] [⟨true, 0⟩]) := hU
  have HB2 := Lib.hid hB
  clear hU hB HU HB
  go_wp2_with fail
  refine (make_calls HU2.out HB2.out (by decide) (by decide)).mono ?_
  rintro e w3 ⟨rfl, hU, hB, _⟩
  have HU3 : Hid (UF w.heap.size w3 g [0, 1] [⟨true, 0⟩, ⟨true, 1⟩]) := hU
  have HB3 := Lib.hid hB
  clear hU hB HU2 HB2
  go_wp2_with fail
  refine (make_calls HU3.out HB3.out (by decide) (by decide)).mono ?_
  rintro e w4 ⟨rfl, hU, hB, _⟩
  have HU4 : Hid (UF w.heap.size w4 g [0, 1, 2] [⟨true, 0⟩, ⟨true, 1⟩, ⟨true, 2⟩]) := hU
  have HB4 := Lib.hid hB
  clear hU hB HU3 HB3
  go_wp2_with fail
  refine (union_join HU4.out HB4.out (by decide) (by decide) well012 2 1 (by decide) (by decide) (by decide)).mono ?_
  rintro e w5 ⟨rfl, hU, hB, _⟩
  have HU5 : Hid (UF w.heap.size w5 g [0, 1, 1] [⟨true, 0⟩, ⟨true, 1⟩, ⟨true, 2⟩, ⟨false, 2⟩]) := hU
  have HB5 := Lib.hid hB
  rw [show mn (fnd [0, 1, 2] 2) (fnd [0, 1, 2] 1) = 1 by decide]
  clear hU hB HU4 HB4
  go_wp2_with fail
  refine (find_calls HU5.out (by decide) well011 2).mono ?_
  rintro e w5' ⟨rfl, rfl⟩
  rw [show fnd [0, 1, 1] 2 = 1 by decide]
  go_wp2_with fail
  refine (undo_yes HU5.out HB5.out (by decide) (by decide) 3 1 (by decide) (by decide) (by simp [Safe, z53])).mono ?_
  rintro e w6 ⟨rfl, hU, hB, _⟩
  have HU6 : Hid (UF w.heap.size w6 g [0, 1, 2] [⟨true, 0⟩, ⟨true, 1⟩, ⟨true, 2⟩]) := hU
  have HB6 := Lib.hid hB
  clear hU hB HU5 HB5
  go_wp2_with fail
  refine (find_calls HU6.out (by decide) well012 2).mono ?_
  rintro e w6' ⟨rfl, rfl⟩
  rw [show fnd [0, 1, 2] 2 = 2 by decide]
  go_wp2
  go_ret
  exact ⟨rfl, HB6.out⟩

/-- The operations behind a script. -/
def runl (s : List S37) : List S56 := s.foldl nxt []
theorem runl_snoc (s : List S37) (a : S37) : runl (s ++ [a]) = nxt (runl s) a := by simp [runl]
theorem runl_length (s : List S37) : (runl s).length ≤ s.length := by
  induction s using snoc_ind with
  | nil => simp [runl]
  | snoc s a ih => rw [runl_snoc, List.length_append, List.length_singleton]; exact Nat.le_trans (nxt_length _ _) (by omega)
theorem below_of_none {w w' : World} (hg : w.grownBy w' none) : Below w.heap.size w w' := ⟨hg.os, hg.tape, hg.output, hg.size, fun k hk => hg.block k hk (by simp)⟩

set_option maxHeartbeats 3200000 in
theorem run_calls {w0 w : World} {g : Nat} {As : Option Addr} {cs : Nat} {s : List S37} (hS : St w0 w g [] (.slice none 0 0)) (hC : Kd.C k37 w0 As s.length s) (hl : s.length ≤ 100) :
    Calls Try.prog 10 #[.pointer (some ⟨g, 0, none⟩), .slice As s.length cs] w (Ends w0 g (runl s)) := by
  have HS := Lib.hid hS
  have HC := Lib.hid hC
  clear hS hC
  go_enter Try.func10, Try.ntmps10
  go_wp2
  go_loopw [6, 13] (fun v i wr => ∃ k : Nat, k ≤ s.length ∧ i = .int .i64 k ∧ Hid (St w0 wr g (runl (s.take k)) v)) (fun _ i _ => s.length - (intOf i).toNat)
  case atStart => exact ⟨0, Nat.zero_le _, rfl, HS⟩
  case round =>
    obtain ⟨k, hk, rfl, H1⟩ := hrel
    obtain ⟨A1, c1, hv1, _, _⟩ := H1.out.read
    subst hv1
    have hrl := runl_length (s.take k)
    rw [List.length_take] at hrl
    by_cases hlt : k < s.length
    · obtain ⟨ad, rfl, x0, x1, x2⟩ := at_T37 (Kd.C_below HC.out H1.out.bel) k (by omega) (by omega)
      rw [Int.toNat_natCast] at x0 x1 x2
      have hst := step_calls H1.out (by omega) (rd_T37 s k)
      have hnx : runl (s.take (k + 1)) = nxt (runl (s.take k)) (rd_T37 s k) := by
        rw [List.take_succ_eq_append_getElem hlt, runl_snoc]
        congr 1
        simp [rd_T37, List.getD_eq_getElem?_getD, List.getElem?_eq_getElem hlt]
      have HNX := Lib.hid hnx
      have hnl := nxt_length (runl (s.take k)) (rd_T37 s k)
      clear hnx
      generalize nxt (runl (s.take k)) (rd_T37 s k) = m at *
      go_wp2_with (first
        | (go_at_call 21; refine hst.mono ?_; rintro e w2 ⟨v2, rfl, hS2⟩; obtain ⟨A2, c2, hv2, hc2, hC2⟩ := hS2.read; subst hv2; have H2 := Lib.hid hS2; have HC2 := Lib.hid hC2; clear hS2 hC2)
        | ((with_reducible refine gate_builtin (b := .append) (xs := #[.tmp 28, .tmp 29]) rfl ?_); at_builtin; refine Kd.R_append_rows k56 (Rr := k56.K w2) (w0 := w0) w0.heap.size rfl (.tmp 28) (.tmp 29) 26 56 (.agg #[.bool false, .int .i64 0, .int .i64 0]) 24 rfl Try.underlying26 inf56 rfl (by decide) (by omega) (.slice none 0 0) ([] : List S56) m A2 m.length c2 (fun _ => True) (fun _ => False) rfl rfl (Kd.R_nil _ _ _ _ _) HC2.out ?aK (fun _ hk => hk.elim) (fun _ _ => trivial) H2.out.bel ?aS ?aL ?_; (case aK => intro x cs h; obtain rfl := k56_open h; exact k56_mkM _ _ _ _); (case aS => exact H2.out.bel.size); (case aL => simp; omega); intro v3 w3 h3 hb3 hg3 _; rw [List.nil_append] at h3; have hb4 := below_of_none hg3; obtain ⟨A3, c3, hv3⟩ := Kd.R_slice h3; subst hv3; have H3 := Lib.hid (show St w0 w3 g m (.slice A3 m.length c3) from ⟨hb3, H2.out.uf.below hb4, h3, H2.out.ok⟩); clear h3 hb3 hg3 hb4))
      go_roundw
      case rel => exact ⟨k + 1, by omega, by go_num, by rw [HNX.out]; exact H3⟩
      case measure => simp [intOf]; omega
    · have hkl : k = s.length := by omega
      subst hkl
      go_wp2
      go_ret2
      refine ⟨_, rfl, ?_⟩
      have e : s.take s.length = s := List.take_length
      have := H1.out
      show St w0 wr g (runl s) (.slice A1 (runl (List.take s.length s)).length c1)
      rw [e] at this ⊢
      exact this
end Go.Proofs.Ytdjgnoofdhjicaa.UF
