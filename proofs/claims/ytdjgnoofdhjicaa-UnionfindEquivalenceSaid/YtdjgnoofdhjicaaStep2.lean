/- What the law's step does at Union. Condition: the object is what follows from at most 150 well-formed operations. -/
import Derived.Test.YtdjgnoofdhjicaaStep1
namespace Go.Proofs.Ytdjgnoofdhjicaa.UF
open Go.RowKit Go.Proofs.YtdjgnoofdhjicaaW.PrintWords Go.Proofs.YtdjgnoofdhjicaaW.PrintLast Go.Proofs.YtdjgnoofdhjicaaW.PrintMore Go.Proofs.Ytdjgnoofdhjicaa.QAll
attribute [local go_sem] max2_int min2_int max_two min_two max_three min_three max_four min_four
set_option linter.unusedVariables false

/-- The blocks of the operations' own element type. -/
def P56 (w : World) (k : Nat) : Prop := ∃ cells, w.heap[k]? = some (.cells cells 56 (0, 0))
theorem R_P56 {B : Nat} {w : World} {ok : Nat → Prop} {v : Value} {l : List S56} (h : Kd.R k56 56 w B ok v l) : Kd.R k56 56 w B (P56 w) v l :=
  Kd.R_mono (Kd.R_bound h) (fun k hk => by
    obtain ⟨_, _, _, q, hq, cells, hc⟩ := hk
    have e : q = 56 := by
      have : q ∈ [56] := hq
      simpa using this
    subst e
    exact ⟨cells, hc⟩)
theorem UF.kept56 {B : Nat} {w w' : World} {g : Nat} {p : List Int} {t : List S53} (h : UF B w g p t) (hk : Kept w w' (P56 w)) : UF B w' g p t := by
  obtain ⟨h1, vp, vt, h2, h3, h4⟩ := h
  have nt : ∀ (k : Nat) (cs : Array Value) (e : TypeId), w.heap[k]? = some (.cells cs e (0, 0)) → e ≠ 56 → ¬ P56 w k := by
    rintro k cs e hb hne ⟨cells, hc⟩
    rw [hc] at hb
    injection hb with hb
    injection hb with _ hb _
    exact hne hb.symm
  refine ⟨h1, vp, vt, blk_kept h2 hk (nt g _ 47 h2 (by decide)), ?_, ?_⟩
  · exact Kd.R_mono (Kd.R_move (Kd.R_bound h3) (fun k hk2 => by
      obtain ⟨_, _, hlt, q, hq, cells, hc⟩ := hk2
      have e : q = 3 := by
        have : q ∈ [3] := hq
        simpa using this
      subst e
      exact hk.2 k hlt (nt k _ 3 hc (by decide)))) (fun _ hk => hk.1)
  · exact Kd.R_mono (Kd.R_move (Kd.R_bound h4) (fun k hk2 => by
      obtain ⟨_, _, hlt, q, hq, cells, hc⟩ := hk2
      have e : q = 53 := by
        have : q ∈ [53] := hq
        simpa using this
      subst e
      exact hk.2 k hlt (nt k _ 53 hc (by decide)))) (fun _ hk => hk.1)

section
variable {w0 w : World} {g : Nat} {l : List S56} {v : Value}
/-- What the reference's Union returns. -/
def runi (l : List S56) (a b : Int) : List S56 × Int × Bool :=
  if 0 ≤ rfnd (lab l) a ∧ 0 ≤ rfnd (lab l) b ∧ rfnd (lab l) a ≠ rfnd (lab l) b then (l ++ [⟨false, a, b⟩], mn (rfnd (lab l) a) (rfnd (lab l) b), true)
  else if 0 ≤ rfnd (lab l) a ∧ 0 ≤ rfnd (lab l) b then (l, rfnd (lab l) a, false) else (l, -1, false)
theorem runion_calls {B : Nat} (hB : Below w0.heap.size w0 w) (hR : Kd.R k56 56 w w0.heap.size (fun _ => True) v l) (h : Ok l) (hl : l.length ≤ 150) (a b : Int) (m : List S56) (r : Int) (is : Bool)
    (he : runi l a b = (m, r, is)) :
    Calls Try.prog 31 #[v, .int .i64 a, .int .i64 b] w fun e w' => ∃ v' : Value, e = .returned (.tuple #[v', .int .i64 r, .bool is]) ∧ Kd.R k56 56 w' w0.heap.size (fun _ => True) v' m ∧ Below w0.heap.size w0 w' ∧ Kept w w' (P56 w) :=
  (saturateref15_Union.calls 50001 (P56 w) v l a b m r is w0 w hB (R_P56 hR) ((Union_eq h hl a b).trans (congrArg some he))).mono fun _ _ ⟨v', h1, h2, h3, h4⟩ => ⟨v', h1, Kd.R_mono h2 (fun _ _ => trivial), h3, h4⟩

theorem lab_join (l : List S56) (h : Ok l) (a b : Int) (x0 : 0 ≤ rfnd (lab l) a) (y0 : 0 ≤ rfnd (lab l) b) (hne : rfnd (lab l) a ≠ rfnd (lab l) b) :
    Ok (l ++ [⟨false, a, b⟩]) ∧ par (l ++ [⟨false, a, b⟩]) = (par l).set (mx (fnd (par l) a) (fnd (par l) b)).toNat (mn (fnd (par l) a) (fnd (par l) b)) ∧ trl (l ++ [⟨false, a, b⟩]) = trl l ++ [⟨false, mx (fnd (par l) a) (fnd (par l) b)⟩] := by
  have d1 := rfnd_in x0
  have d2 := rfnd_in y0
  have i := stt_inv h
  refine ⟨h.snoc (.inr ⟨rfl, d1.1, d1.2.1, d2.1, d2.2.1, by rw [← d1.2.2, ← d2.2.2]; exact hne⟩), ?_, ?_⟩
  · rw [i.find a, i.find b, d1.2.2, d2.2.2]
    unfold par
    rw [stt_snoc]
    rfl
  · rw [i.find a, i.find b, d1.2.2, d2.2.2]
    unfold trl
    rw [stt_snoc]
    rfl

set_option maxHeartbeats 1600000 in
theorem step_union_join (hS : St w0 w g l v) (hl : l.length ≤ 150) (A B : Int) (x0 : 0 ≤ rfnd (lab l) A) (y0 : 0 ≤ rfnd (lab l) B) (hne : rfnd (lab l) A ≠ rfnd (lab l) B) :
    Calls Try.prog 21 #[.pointer (some ⟨g, 0, none⟩), v, .agg #[.int .i64 2, .int .i64 A, .int .i64 B]] w (Ends w0 g (l ++ [⟨false, A, B⟩])) := by
  obtain ⟨A0, c0, rfl, hc0, hC⟩ := hS.read
  have hb1 : Below w.heap.size w (w.alloc (.cells #[.int .i64 2, .int .i64 A, .int .i64 B] 37)) := below_alloc (Below.refl _ _) _
  have hS1 := hS.below hb1
  have hj := lab_join l hS.ok A B x0 y0 hne
  have fa := hS.inv.find A
  have fb := hS.inv.find B
  have hu := union_join hS1.uf hS1.bel (hS1.plen hl) (St.tlen hl) hS1.well A B (by rw [fa]; exact x0) (by rw [fb]; exact y0) (by rw [fa, fb]; exact hne)
  rw [← hj.2.1, ← hj.2.2, fa, fb] at hu
  have he : runi l A B = (l ++ [(⟨false, A, B⟩ : S56)], mn (rfnd (lab l) A) (rfnd (lab l) B), true) := by unfold runi; rw [if_pos ⟨x0, y0, hne⟩]
  have H1 := Lib.hid hS1
  have HE := Lib.hid he
  have HJ := Lib.hid hj.1
  have cb0 : (w.alloc (.cells #[.int .i64 2, .int .i64 A, .int .i64 B] 37)).heap[w.heap.size]? = some (.cells #[.int .i64 2, .int .i64 A, .int .i64 B] 37 (0, 0)) := blk_new _ _
  have CB := Lib.hid cb0
  clear hS hS1 hC hb1 hj fa fb he x0 y0 hne cb0
  generalize mn (rfnd (lab l) A) (rfnd (lab l) B) = r at *
  go_enter Try.func21, Try.ntmps21
  go_wp2_with (first
    | (go_at_call 17; refine hu.mono ?_; rintro e w1 ⟨rfl, hU, hB, hO⟩; have HU := Lib.hid hU; have HB := Lib.hid hB; have HR := Lib.hid (R_other H1.out.own hO (by decide)); have CB1 := Lib.hid ((hO.2 w.heap.size (blk_lt CB.out) (fun cs e fr hb => by rw [CB.out] at hb; injection hb with hb; injection hb with _ hb _; subst hb; decide)).trans CB.out); have q1 : w1.cell? ⟨w.heap.size, 1, none⟩ = some (.int .i64 A) := (blk_cell CB1.out 1).trans rfl; have q2 : w1.cell? ⟨w.heap.size, 2, none⟩ = some (.int .i64 B) := (blk_cell CB1.out 2).trans rfl; clear hU hB hO)
    | (go_at_call 31; refine (runion_calls (B := 0) HB.out HR.out H1.out.ok hl A B _ _ _ HE.out).mono ?_; rintro e w2 ⟨v2, rfl, hR, hB, hK⟩; have HR2 := Lib.hid hR; have HB2 := Lib.hid hB; have HU2 := Lib.hid (HU.out.kept56 hK); obtain ⟨A3, c3, hv2⟩ := Kd.R_slice hR; rw [List.length_append, List.length_singleton] at hv2; subst hv2; clear hR hB hK))
  go_ret2
  exact ⟨_, rfl, HB2.out, HU2.out, HR2.out, HJ.out⟩
set_option maxHeartbeats 1600000 in
theorem step_union_eq (hS : St w0 w g l v) (hl : l.length ≤ 150) (A B : Int) (hx : 0 ≤ rfnd (lab l) A ∧ rfnd (lab l) B = rfnd (lab l) A) :
    Calls Try.prog 21 #[.pointer (some ⟨g, 0, none⟩), v, .agg #[.int .i64 2, .int .i64 A, .int .i64 B]] w (Ends w0 g l) := by
  obtain ⟨A0, c0, rfl, hc0, hC⟩ := hS.read
  have hb1 : Below w.heap.size w (w.alloc (.cells #[.int .i64 2, .int .i64 A, .int .i64 B] 37)) := below_alloc (Below.refl _ _) _
  have hS1 := hS.below hb1
  have fa := hS.inv.find A
  have fb := hS.inv.find B
  have hu := union_eq hS1.uf (hS1.plen hl) hS1.well A B (by rw [fa]; exact hx.1) (by rw [fa, fb]; exact hx.2)
  rw [fa] at hu
  have he : runi l A B = (l, rfnd (lab l) A, false) := by unfold runi; rw [if_neg (by omega), if_pos (by omega)]
  have H1 := Lib.hid hS1
  have HE := Lib.hid he
  have cb0 : (w.alloc (.cells #[.int .i64 2, .int .i64 A, .int .i64 B] 37)).heap[w.heap.size]? = some (.cells #[.int .i64 2, .int .i64 A, .int .i64 B] 37 (0, 0)) := blk_new _ _
  have CB := Lib.hid cb0
  clear hS hS1 hC hb1 fa fb he cb0 hx
  generalize rfnd (lab l) A = r at *
  go_enter Try.func21, Try.ntmps21
  go_wp2_with (first
    | (go_at_call 17; refine hu.mono ?_; rintro e w1 ⟨rfl, rfl⟩; have q1 : (w.alloc (.cells #[.int .i64 2, .int .i64 A, .int .i64 B] 37)).cell? ⟨w.heap.size, 1, none⟩ = some (.int .i64 A) := (blk_cell CB.out 1).trans rfl; have q2 : (w.alloc (.cells #[.int .i64 2, .int .i64 A, .int .i64 B] 37)).cell? ⟨w.heap.size, 2, none⟩ = some (.int .i64 B) := (blk_cell CB.out 2).trans rfl)
    | (go_at_call 31; refine (runion_calls (B := 0) H1.out.bel H1.out.own H1.out.ok hl A B _ _ _ HE.out).mono ?_; rintro e w2 ⟨v2, rfl, hR, hB, hK⟩; have HR2 := Lib.hid hR; have HB2 := Lib.hid hB; have HU2 := Lib.hid (H1.out.uf.kept56 hK); obtain ⟨A3, c3, hv2⟩ := Kd.R_slice hR; subst hv2; clear hR hB hK))
  go_ret2
  exact ⟨_, rfl, HB2.out, HU2.out, HR2.out, H1.out.ok⟩
set_option maxHeartbeats 1600000 in
theorem step_union_out (hS : St w0 w g l v) (hl : l.length ≤ 150) (A B : Int) (hx : rfnd (lab l) A < 0 ∨ rfnd (lab l) B < 0) :
    Calls Try.prog 21 #[.pointer (some ⟨g, 0, none⟩), v, .agg #[.int .i64 2, .int .i64 A, .int .i64 B]] w (Ends w0 g l) := by
  obtain ⟨A0, c0, rfl, hc0, hC⟩ := hS.read
  have hb1 : Below w.heap.size w (w.alloc (.cells #[.int .i64 2, .int .i64 A, .int .i64 B] 37)) := below_alloc (Below.refl _ _) _
  have hS1 := hS.below hb1
  have fa := hS.inv.find A
  have fb := hS.inv.find B
  have hu := union_out hS1.uf (hS1.plen hl) hS1.well A B (by rw [fa, fb]; exact hx)
  have he : runi l A B = (l, -1, false) := by unfold runi; rw [if_neg (by omega), if_neg (by omega)]
  have H1 := Lib.hid hS1
  have HE := Lib.hid he
  have cb0 : (w.alloc (.cells #[.int .i64 2, .int .i64 A, .int .i64 B] 37)).heap[w.heap.size]? = some (.cells #[.int .i64 2, .int .i64 A, .int .i64 B] 37 (0, 0)) := blk_new _ _
  have CB := Lib.hid cb0
  clear hS hS1 hC hb1 fa fb he cb0 hx
  go_enter Try.func21, Try.ntmps21
  go_wp2_with (first
    | (go_at_call 17; refine hu.mono ?_; rintro e w1 ⟨rfl, rfl⟩; have q1 : (w.alloc (.cells #[.int .i64 2, .int .i64 A, .int .i64 B] 37)).cell? ⟨w.heap.size, 1, none⟩ = some (.int .i64 A) := (blk_cell CB.out 1).trans rfl; have q2 : (w.alloc (.cells #[.int .i64 2, .int .i64 A, .int .i64 B] 37)).cell? ⟨w.heap.size, 2, none⟩ = some (.int .i64 B) := (blk_cell CB.out 2).trans rfl)
    | (go_at_call 31; refine (runion_calls (B := 0) H1.out.bel H1.out.own H1.out.ok hl A B _ _ _ HE.out).mono ?_; rintro e w2 ⟨v2, rfl, hR, hB, hK⟩; have HR2 := Lib.hid hR; have HB2 := Lib.hid hB; have HU2 := Lib.hid (H1.out.uf.kept56 hK); obtain ⟨A3, c3, hv2⟩ := Kd.R_slice hR; subst hv2; clear hR hB hK))
  go_ret2
  exact ⟨_, rfl, HB2.out, HU2.out, HR2.out, H1.out.ok⟩
/-- Union. -/
theorem step_union (hS : St w0 w g l v) (hl : l.length ≤ 150) (A B : Int) :
    Calls Try.prog 21 #[.pointer (some ⟨g, 0, none⟩), v, .agg #[.int .i64 2, .int .i64 A, .int .i64 B]] w (Ends w0 g (nxt l ⟨2, A, B⟩)) := by
  by_cases h : 0 ≤ rfnd (lab l) A ∧ 0 ≤ rfnd (lab l) B ∧ rfnd (lab l) A ≠ rfnd (lab l) B
  · have e : nxt l ⟨2, A, B⟩ = l ++ [⟨false, A, B⟩] := by
      unfold nxt
      rw [if_neg (show ¬ ((2 : Int) = 1) by decide), if_pos rfl, if_pos h]
    rw [e]; exact step_union_join hS hl A B h.1 h.2.1 h.2.2
  · have e : nxt l ⟨2, A, B⟩ = l := by
      unfold nxt
      rw [if_neg (show ¬ ((2 : Int) = 1) by decide), if_pos rfl, if_neg h]
    rw [e]
    by_cases h2 : rfnd (lab l) A < 0 ∨ rfnd (lab l) B < 0
    · exact step_union_out hS hl A B h2
    · exact step_union_eq hS hl A B ⟨by omega, by omega⟩
end
end Go.Proofs.Ytdjgnoofdhjicaa.UF
