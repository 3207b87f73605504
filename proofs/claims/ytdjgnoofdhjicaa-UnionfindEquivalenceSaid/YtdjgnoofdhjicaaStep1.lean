/- What the law's step does at Make and at Undo. Condition: the object is what follows from at most 150 well-formed operations. -/
import Derived.Test.YtdjgnoofdhjicaaRefs
namespace Go.Proofs.Ytdjgnoofdhjicaa.UF
open Go.RowKit Go.Proofs.YtdjgnoofdhjicaaW.PrintWords Go.Proofs.YtdjgnoofdhjicaaW.PrintLast Go.Proofs.YtdjgnoofdhjicaaW.PrintMore Go.Proofs.Ytdjgnoofdhjicaa.QAll
attribute [local go_sem] max2_int min2_int max_two min_two max_three min_three max_four min_four
set_option linter.unusedVariables false

theorem inf56 : (Try.prog.info? 56).map (fun i => (i.zero, i.size, i.bytes)) = some (some (.agg #[.bool false, .int .i64 0, .int .i64 0]), 3, 24) := by kernel_rfl
/-- The end of a step: the operations behind it, and 'true'. -/
def Ends (w0 : World) (g : Nat) (m : List S56) (e : Ending) (w' : World) : Prop := ∃ v', e = .returned (.tuple #[v', .bool true]) ∧ St w0 w' g m v'

section
variable {w0 w : World} {g : Nat} {l : List S56} {v : Value}
/-- An append to the operations turns no block of the object. -/
theorem UF.grown56 {B : Nat} {w w' : World} {p : List Int} {t : List S53} {u : Value} {xs : List S56} {B' : Nat} {ok : Nat → Prop} (h : UF B w g p t) (hR : Kd.R k56 56 w B' ok u xs) (hg : w.grownBy w' u.ownBlock) : UF B w' g p t := by
  obtain ⟨h1, vp, vt, h2, h3, h4⟩ := h
  exact ⟨h1, vp, vt, blk_grown h2 hg (Kd.R_ne hR h2 (by decide)), Kd.R_over' h3 (Kd.R_typed hR) (by decide) hg, Kd.R_over' h4 (Kd.R_typed hR) (by decide) hg⟩
theorem lab_make (l : List S56) (h : Ok l) : par (l ++ [⟨true, 0, 0⟩]) = par l ++ [((par l).length : Int)] ∧ trl (l ++ [⟨true, 0, 0⟩]) = trl l ++ [⟨true, (par l).length⟩] ∧ ((par l).length : Int) = (lab l).length := by
  unfold par trl lab
  rw [stt_snoc]
  exact ⟨rfl, rfl, by have := (stt_inv h).len; unfold par lab at this; omega⟩

set_option maxHeartbeats 1600000 in
theorem step_make (hS : St w0 w g l v) (hl : l.length ≤ 150) (A B : Int) :
    Calls Try.prog 21 #[.pointer (some ⟨g, 0, none⟩), v, .agg #[.int .i64 1, .int .i64 A, .int .i64 B]] w (Ends w0 g (l ++ [⟨true, 0, 0⟩])) := by
  obtain ⟨A0, c0, rfl, hc0, hC⟩ := hS.read
  have hb1 : Below w.heap.size w (w.alloc (.cells #[.int .i64 1, .int .i64 A, .int .i64 B] 37)) := below_alloc (Below.refl _ _) _
  have hS1 := hS.below hb1
  have hlab := labels_calls hS.ok hl hc0 (Kd.C_below hC hb1)
  have hpl := (lab_make l hS.ok).2.2
  have hle := lab_length_le l
  have H1 := Lib.hid hS1
  have HPL := Lib.hid hpl
  clear hS hS1 hC hb1 hpl
  go_enter Try.func21, Try.ntmps21
  go_wp2_with (first
    | (go_at_call 24; refine hlab.mono ?_; rintro e w1 ⟨vL, rfl, hR, hB⟩; have H2 := Lib.hid (H1.out.below hB); obtain ⟨AL, cL, hvL⟩ := Kd.R_slice hR; subst hvL; have hsz := H2.out.bel.size; clear hR hB)
    | ((with_reducible refine gate_builtin (b := .append) (xs := #[.tmp 23, .tmp 25]) rfl ?_); at_builtin; refine Kd.R_append k56 (w0 := w0) w0.heap.size rfl (.tmp 23) (.tmp 25) 26 56 (.agg #[.bool false, .int .i64 0, .int .i64 0]) 24 rfl Try.underlying26 inf56 rfl (by decide) (by omega) (.slice A0 l.length c0) l (⟨true, 0, 0⟩ : S56) [.bool true, .int .i64 0, .int .i64 0] (fun _ => True) (fun _ => False) rfl rfl ?bP (fun _ hk => hk.elim) (fun _ _ => trivial) H2.out.own H2.out.bel ?bS ?bL ?_; (case bP => exact k56_mkM _ _ _ _); (case bS => omega); (case bL => omega); intro v2 w2 ht2 hb2 hg2 _; obtain ⟨A3, c3, hv2⟩ := Kd.R_slice ht2; rw [List.length_append, List.length_singleton] at hv2; subst hv2; have HT2 := Lib.hid ht2; have HB2 := Lib.hid hb2; have HU2 := Lib.hid (H2.out.uf.grown56 H2.out.own hg2); clear ht2 hb2 hg2)
    | (go_at_call 16; refine (make_calls HU2.out HB2.out (H2.out.plen hl) (St.tlen hl)).mono ?_; rintro e w3 ⟨rfl, hU, hB, hO⟩; have HU3 := Lib.hid hU; have HB3 := Lib.hid hB; have HT3 := Lib.hid (R_other HT2.out hO (by decide)); clear hU hB hO; rw [HPL.out]))
  go_ret2
  have hm := lab_make l H2.out.ok
  refine ⟨_, rfl, HB3.out, ?_, HT3.out, H2.out.ok.snoc (.inl rfl)⟩
  rw [hm.1, hm.2.1]
  exact HU3.out

set_option maxHeartbeats 1600000 in
theorem step_undo_no (hS : St w0 w g l v) (hl : l.length ≤ 150) (A B : Int) (h : A < 0 ∨ (l.length : Int) < A) :
    Calls Try.prog 21 #[.pointer (some ⟨g, 0, none⟩), v, .agg #[.int .i64 3, .int .i64 A, .int .i64 B]] w (Ends w0 g l) := by
  obtain ⟨A0, c0, rfl, hc0, hC⟩ := hS.read
  have hb1 : Below w.heap.size w (w.alloc (.cells #[.int .i64 3, .int .i64 A, .int .i64 B] 37)) := below_alloc (Below.refl _ _) _
  have hS1 := hS.below hb1
  have hu := undo_no hS1.uf (St.tlen hl) A (by rw [trl_length]; exact h)
  have H1 := Lib.hid hS1
  clear hS hS1 hC hb1
  by_cases h0 : A < 0
  · clear h
    go_enter Try.func21, Try.ntmps21
    go_wp2_with (go_at_call 18; refine hu.mono ?_; rintro e w1 ⟨rfl, rfl⟩)
    go_ret2
    exact ⟨_, rfl, H1.out⟩
  · have h1 : (l.length : Int) < A := by omega
    clear h
    go_enter Try.func21, Try.ntmps21
    go_wp2_with (go_at_call 18; refine hu.mono ?_; rintro e w1 ⟨rfl, rfl⟩)
    go_ret2
    exact ⟨_, rfl, H1.out⟩
set_option maxHeartbeats 1600000 in
theorem step_undo_yes (hS : St w0 w g l v) (hl : l.length ≤ 150) (A B : Int) (h0 : 0 ≤ A) (h1 : A ≤ l.length) :
    Calls Try.prog 21 #[.pointer (some ⟨g, 0, none⟩), v, .agg #[.int .i64 3, .int .i64 A, .int .i64 B]] w (Ends w0 g (l.take A.toNat)) := by
  obtain ⟨A0, c0, rfl, hc0, hC⟩ := hS.read
  have hb1 : Below w.heap.size w (w.alloc (.cells #[.int .i64 3, .int .i64 A, .int .i64 B] 37)) := below_alloc (Below.refl _ _) _
  have hS1 := hS.below hb1
  have hn : l.length - A.toNat ≤ l.length := by omega
  have hut := und_take (l.length - A.toNat) l hS.ok hn
  have hu := undo_yes hS1.uf hS1.bel (hS1.plen hl) (St.tlen hl) A (l.length - A.toNat) h0 (by rw [trl_length]; omega) hut.2
  have H1 := Lib.hid hS1
  have HE := Lib.hid hut.1
  have h2 : ¬ A < 0 := by omega
  have h3 : ¬ (l.length : Int) < A := by omega
  have h4 : A ≤ (c0 : Int) := by omega
  have cb0 : (w.alloc (.cells #[.int .i64 3, .int .i64 A, .int .i64 B] 37)).heap[w.heap.size]? = some (.cells #[.int .i64 3, .int .i64 A, .int .i64 B] 37 (0, 0)) := blk_new _ _
  have CB := Lib.hid cb0
  clear hS hS1 hC hb1 hut cb0
  go_enter Try.func21, Try.ntmps21
  go_wp2_with (go_at_call 18; refine hu.mono ?_; rintro e w1 ⟨rfl, hU, hB, hO⟩; have HU := Lib.hid hU; have HB := Lib.hid hB; have HR := Lib.hid (R_other H1.out.own hO (by decide)); have CB1 := Lib.hid ((hO.2 w.heap.size (blk_lt CB.out) (fun cs e fr hb => by rw [CB.out] at hb; injection hb with hb; injection hb with _ hb _; subst hb; decide)).trans CB.out); have q1 : w1.cell? ⟨w.heap.size, 1, none⟩ = some (.int .i64 A) := (blk_cell CB1.out 1).trans rfl; clear hU hB hO)
  go_ret2
  have ht := Kd.R_take (m := A.toNat) HR.out (by omega)
  refine ⟨_, rfl, HB.out, ?_, ht, H1.out.ok.take _⟩
  rw [trl_take, show A.toNat = l.length - (l.length - A.toNat) by omega, ← HE.out, show l.length - (l.length - A.toNat) = A.toNat by omega]
  exact HU.out
/-- Undo. -/
theorem step_undo (hS : St w0 w g l v) (hl : l.length ≤ 150) (A B : Int) :
    Calls Try.prog 21 #[.pointer (some ⟨g, 0, none⟩), v, .agg #[.int .i64 3, .int .i64 A, .int .i64 B]] w (Ends w0 g (nxt l ⟨3, A, B⟩)) := by
  by_cases h : 0 ≤ A ∧ A ≤ l.length
  · have e : nxt l ⟨3, A, B⟩ = l.take A.toNat := by simp [nxt, h]
    rw [e]; exact step_undo_yes hS hl A B h.1 h.2
  · have e : nxt l ⟨3, A, B⟩ = l := by simp [nxt]; intro a b; exact absurd ⟨a, b⟩ h
    rw [e]; exact step_undo_no hS hl A B (by omega)
end
end Go.Proofs.Ytdjgnoofdhjicaa.UF
