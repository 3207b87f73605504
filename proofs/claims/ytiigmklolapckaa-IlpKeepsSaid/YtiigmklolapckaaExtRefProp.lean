/- What the reference's Propagate computes, and that the machine's call of it comes to that. No condition on the contract but that the rounds suffice. -/
import Derived.Test.YtiigmklolapckaaQAllx11
import Derived.Test.YtiigmklolapckaaQAllx12
import Derived.Lib.Hide
namespace Go.Proofs.Ytiigmklolapckaa.QAll
open Go.RowKit Go.Proofs.YtiigmklolapckaaW.PrintWords Go.Proofs.YtiigmklolapckaaW.PrintLast Go.Proofs.YtiigmklolapckaaW.PrintMore
attribute [local go_sem] max2_int min2_int max_two min_two max_three min_three max_four min_four
set_option linter.unusedVariables false
set_option linter.unusedSimpArgs false

/-- The reference's steps, till nothing changes any more or a row can't hold. -/
def refRun (p0 : List Int) (p1 : List S43) : Nat → List Int → Option (List Int × Bool)
  | 0, _ => none
  | n + 1, x => (saturateref41_next.f 50000 p0 p1 x).bind fun r => if r.2.1 && r.2.2 then refRun p0 p1 n r.1 else some (r.1, r.2.2)
def saturateref41_Propagate.f (l0_0 : List Int) (l0_1 : List S43) (l1 : List Int) : Option (List Int × Bool) :=
  (saturateref41_partial.f 50000 l0_0 l0_1 l1).bind fun b => if b then refRun l0_0 l0_1 1000 l1 else some ([], false)
/-- Where the loop stands. -/
def RefAt (p0 : List Int) (p1 : List S43) (r1 : List Int) (r2 : Bool) (n : Nat) (x : List Int) (m ok : Bool) : Prop :=
  (m && ok) = true ∧ refRun p0 p1 n x = some (r1, r2) ∨ (m && ok) = false ∧ r1 = x ∧ r2 = ok
set_option maxHeartbeats 3200000 in
theorem saturateref41_Propagate.calls (A0_0 : Option Addr) (c0_0 : Nat) (l0_0 : List Int) (A0_1 : Option Addr) (c0_1 : Nat) (l0_1 : List (S43)) (P1_ : Nat → Prop) (A1 : Option Addr) (c1 : Nat) (l1 : List Int) (r1 : List Int) (r2 : Bool) (w : World) (hr0_0 : Kd.C (Kd.int .i64) w A0_0 l0_0.length l0_0) (hc0_0 : l0_0.length ≤ c0_0) (hr0_1 : Kd.C k43 w A0_1 l0_1.length l0_1) (hc0_1 : l0_1.length ≤ c0_1) (hs1 : Kd.V (Kd.int .i64) 3 w w.heap.size (fun k_ => P1_ k_) (.slice A1 l1.length c1) l1) (h : saturateref41_Propagate.f l0_0 l0_1 l1 = some (r1, r2)) :
    Calls Try.prog 11 #[.agg #[.slice A0_0 l0_0.length c0_0, .slice A0_1 l0_1.length c0_1], .slice A1 l1.length c1] w fun e w' => ∃ v0_ : Value, e = .returned (.tuple #[v0_, .bool r2]) ∧ Kd.V (Kd.int .i64) 3 w' w.heap.size (fun k_ => (P1_ k_ ∨ w.heap.size ≤ k_)) v0_ r1 ∧ Below w.heap.size w w' := by
  obtain ⟨b, hb, h⟩ := Option.bind_eq_some_iff.mp h
  have H0 := Lib.hid hr0_0
  have H1 := Lib.hid hr0_1
  have HP := Lib.hid hb
  have HV := Lib.hid (show Kd.V (Kd.int .i64) 3 w w.heap.size (fun k_ => P1_ k_ ∨ w.heap.size ≤ k_) (.slice A1 l1.length c1) l1 from Kd.V_mono hs1 (fun k hk => .inl hk))
  have hb0 := below_alloc (Below.refl w.heap.size w) (.cells #[.slice A0_0 l0_0.length c0_0, .slice A0_1 l0_1.length c0_1] 25)
  have HB := Lib.hid hb0
  have BK := Lib.hid (blk_new w (.cells #[.slice A0_0 l0_0.length c0_0, .slice A0_1 l0_1.length c0_1] 25))
  clear hr0_0 hr0_1 hs1 hb hb0
  cases b
  · simp only [Bool.false_eq_true, if_false, Option.some.injEq, Prod.mk.injEq] at h
    obtain ⟨rfl, rfl⟩ := h
    go_enter Try.func11, Try.ntmps11
    go_wp2_with (go_at_call 30; refine (saturateref41_partial.calls 50000 _ _ _ _ _ _ _ _ _ _ _ (Kd.C_below H0.out HB.out) hc0_0 (Kd.C_below H1.out HB.out) hc0_1 (Kd.C_below (Kd.V_reads' HV.out).2.2 HB.out) (Kd.V_reads' HV.out).2.1 HP.out).mono ?_; rintro e w2 ⟨rfl, hB⟩)
    go_ret2
    exact ⟨_, rfl, Kd.V_nil _ _ _ _ _, below_step HB.out (by first | exact hB | exact hB.below)⟩
  · simp only [if_true] at h
    have HR := Lib.hid h
    clear h
    go_enter Try.func11, Try.ntmps11
    go_wp2_with (go_at_call 30; refine (saturateref41_partial.calls 50000 _ _ _ _ _ _ _ _ _ _ _ (Kd.C_below H0.out HB.out) hc0_0 (Kd.C_below H1.out HB.out) hc0_1 (Kd.C_below (Kd.V_reads' HV.out).2.2 HB.out) (Kd.V_reads' HV.out).2.1 HP.out).mono ?_; rintro e w2 ⟨rfl, hB⟩; have HB2 := Lib.hid (by first | exact hB | exact hB.below : Below (w.alloc (.cells #[.slice A0_0 l0_0.length c0_0, .slice A0_1 l0_1.length c0_1] 25)).heap.size _ w2); clear hB)
    go_loopg [1, 6, 7] 1000 (fun n v m ok wr => ∃ (x : List Int) (mb okb : Bool), m = .bool mb ∧ ok = .bool okb ∧ Hid (RefAt l0_0 l0_1 r1 r2 n x mb okb) ∧ Hid (Kd.V (Kd.int .i64) 3 wr w.heap.size (fun k_ => P1_ k_ ∨ w.heap.size ≤ k_) v x) ∧ Hid (wr.heap[w.heap.size]? = some (.cells #[.slice A0_0 l0_0.length c0_0, .slice A0_1 l0_1.length c0_1] 25 (0, 0))) ∧ Hid (Below w.heap.size w wr))
    case atStart => exact ⟨l1, true, true, rfl, rfl, .inl ⟨rfl, HR.out⟩, Kd.V_below HV.out (below_step HB.out HB2.out), blk_below BK.out HB2.out, below_step HB.out HB2.out⟩
    case round =>
      obtain ⟨x, mb, okb, rfl, rfl, HA, HX, BKr, HBr⟩ := hrel
      obtain ⟨Ax, cx, hvx⟩ := Kd.V_slice HX.out
      subst hvx
      have c0 : wr.cell? ⟨w.heap.size, 0, none⟩ = some (.slice A0_0 l0_0.length c0_0) := (blk_cell BKr.out 0).trans rfl
      have c1 : wr.cell? ⟨w.heap.size, 1, none⟩ = some (.slice A0_1 l0_1.length c0_1) := (blk_cell BKr.out 1).trans rfl
      rcases HA.out with ⟨hm, hr⟩ | ⟨hm, rfl, rfl⟩
      · obtain ⟨rfl, rfl⟩ : mb = true ∧ okb = true := by simpa using hm
        cases gk with
        | zero => cases hr
        | succ n =>
          obtain ⟨q, hq, hr⟩ := Option.bind_eq_some_iff.mp hr
          obtain ⟨x2, m2, ok2⟩ := q
          have HQ := Lib.hid hq
          have HN := Lib.hid (show RefAt l0_0 l0_1 r1 r2 n x2 m2 ok2 by
            cases hb : (m2 && ok2)
            · rw [hb] at hr; simp only [Bool.false_eq_true, if_false, Option.some.injEq, Prod.mk.injEq] at hr
              exact .inr ⟨hb, hr.1.symm, hr.2.symm⟩
            · rw [hb] at hr; exact .inl ⟨hb, by simpa using hr⟩)
          clear hq hr hm HA
          go_wp2_with (go_at_call 31; refine (saturateref41_next.calls 50000 _ _ _ _ _ _ (fun k_ => P1_ k_ ∨ w.heap.size ≤ k_) _ _ _ _ _ _ _ (Kd.C_below H0.out HBr.out) hc0_0 (Kd.C_below H1.out HBr.out) hc0_1 HX.out HQ.out).mono ?_; rintro e w3 ⟨v3, rfl, hV, hB⟩; have HV3 := Lib.hid (Kd.V_mono (ok' := fun k_ => P1_ k_ ∨ w.heap.size ≤ k_) hV (fun k hk => hk.elim id (fun hk => .inr (Nat.le_trans HBr.out.size hk)))); have HB3 := Lib.hid hB; clear hV hB)
          go_roundg n
          case measure => omega
          case rel => exact ⟨x2, m2, ok2, rfl, rfl, HN, HV3, blk_below BKr.out HB3.out, below_step HBr.out HB3.out⟩
      · clear HA
        cases mb
        · go_wp2
          go_ret2
          exact ⟨_, rfl, HX.out, HBr.out⟩
        · obtain rfl : r2 = false := by simpa using hm
          go_wp2
          go_ret2
          exact ⟨_, rfl, HX.out, HBr.out⟩
end Go.Proofs.Ytiigmklolapckaa.QAll
