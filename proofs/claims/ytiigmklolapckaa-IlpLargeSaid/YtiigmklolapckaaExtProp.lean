/- What the solver's propagate computes, and that the machine's call of it comes to that. No condition on the contract but that the rounds suffice. -/
import Derived.Test.YtiigmklolapckaaQAllx3
import Derived.Lib.Hide
import Derived.Scope
namespace Go.Proofs.Ytiigmklolapckaa.QAll
open Go.RowKit Go.Proofs.YtiigmklolapckaaW.PrintWords Go.Proofs.YtiigmklolapckaaW.PrintLast Go.Proofs.YtiigmklolapckaaW.PrintMore
attribute [local go_sem] max2_int min2_int max_two min_two max_three min_three max_four min_four
set_option linter.unusedVariables false
set_option linter.unusedSimpArgs false

/-- One pass over the rows: 0: a row can't hold; 1: a variable was given its value; 2: nothing to do. -/
def propPass : List S43 → List Int → Option (Nat × List Int)
  | [], x => some (2, x)
  | r :: rs, x => (ilp_force.f 50000 r.f0 r.f1 x).bind fun q => if q.2.1 then (if q.1 then propPass rs q.2.2 else some (1, q.2.2)) else some (0, q.2.2)
def propRun (p1 : List S43) : Nat → List Int → Option (Bool × List Int)
  | 0, _ => none
  | n + 1, x => (propPass p1 x).bind fun q => if q.1 = 0 then some (false, q.2) else if q.1 = 1 then propRun p1 n q.2 else some (true, q.2)
def ilp_propagate.f (l0_0 : List Int) (l0_1 : List S43) (l1 : List Int) : Option (Bool × List Int) := propRun l0_1 1000 l1

/-- A row of what is read in every world that keeps all but S: its coefficients are read so, too. -/
theorem sub_row {w wr : World} {S S' : Nat → Prop} {A : Option Addr} {n : Nat} {xs : List S43} (h : ∀ W_, Kept w W_ S → Kd.C k43 W_ A n xs) (hk : Kept w wr S) (hS : ∀ k, S' k → S k ∨ w.heap.size ≤ k) (i : Int) (h0 : 0 ≤ i) (h1 : i < n) :
    ∃ ad A0 c0, A = some ad ∧ wr.cell? (ad.add (i.toNat * 2)) = some (.slice A0 (rd_T43 xs i).f0.length c0) ∧ wr.cell? ⟨(ad.add (i.toNat * 2)).block, (ad.add (i.toNat * 2)).off + 1, none⟩ = some (.int .i64 (rd_T43 xs i).f1) ∧ (rd_T43 xs i).f0.length ≤ c0 ∧
      ∀ W_, Kept wr W_ S' → Kd.C k45 W_ A0 (rd_T43 xs i).f0.length (rd_T43 xs i).f0 := by
  obtain ⟨ad, A0, c0, rfl, x0, x1, x2, x3⟩ := at_T43 (h wr hk) i h0 h1
  refine ⟨ad, A0, c0, rfl, x0, x1, x2, fun W_ hk' => ?_⟩
  have hn : ¬ S' (ad.add (i.toNat * 2)).block := by
    intro hs
    have hk2 : Kept wr { wr with heap := wr.heap.setIfInBounds (ad.add (i.toNat * 2)).block (.map #[] 0) } S' := ⟨by simp, fun j hj hne => by
      have : (ad.add (i.toNat * 2)).block ≠ j := fun e => hne (e ▸ hs)
      simp [Array.getElem?_setIfInBounds, this]⟩
    obtain ⟨ad', _, _, e, y0, _⟩ := at_T43 (h _ (hk.then_ hk2 hS)) i h0 h1
    cases e
    have hlt := World.block_lt_of_cell? _ _ x0
    simp [World.cell?, Array.getElem?_setIfInBounds, hlt] at y0
  obtain ⟨ad', A0', c0', e, y0, y1, y2, y3⟩ := at_T43 (h W_ (hk.then_ hk' hS)) i h0 h1
  cases e
  have := cell_kept x0 hk' hn
  rw [this] at y0
  injection y0 with y0
  injection y0 with y0 _ _
  rw [y0]
  exact y3
/-- Where the loop stands. -/
def PropAt (p1 : List S43) (r1 : Bool) (r2 : List Int) (n : Nat) (x : List Int) (ab : Bool) : Prop :=
  ab = true ∧ propRun p1 n x = some (r1, r2) ∨ ab = false ∧ r1 = true ∧ r2 = x
/-- In wr: the assignment x in the row u, everything else as in w, the problem's own copy. -/
structure PS (w0 w wr : World) (u : Value) (x : List Int) (vb : Array Value) : Prop where
  bel : Below w0.heap.size w0 wr
  kept : Kept w wr (fun k => u.ownBlock = some k)
  own : Kd.R (Kd.int .i64) 3 wr w0.heap.size (fun k => u.ownBlock = some k) u x
  box : wr.heap[w.heap.size]? = some (.cells vb 25 (0, 0))
theorem R_mine' {e B : Nat} {w : World} {ok : Nat → Prop} {u : Value} {x : List Int} (h : Kd.R (Kd.int .i64) e w B ok u x) : Kd.R (Kd.int .i64) e w B (fun k => u.ownBlock = some k) u x := ⟨fun k hk => hk, h.2⟩
theorem PS.alloc {w0 w wr : World} {u : Value} {x : List Int} {vb : Array Value} (h : PS w0 w wr u x vb) (o : Obj) : PS w0 w (wr.alloc o) u x vb :=
  ⟨below_alloc h.bel o, h.kept.alloc o, Kd.R_below h.own (below_alloc (Below.refl _ _) o), blk_alloc h.box o⟩
theorem noGoto_ret {Q : Exit → Act → World → Prop} {a : Act} {w : World} (h : Q .ret a w) : Exit.noGoto Q .ret a w := h
theorem noGoto_normal {Q : Exit → Act → World → Prop} {a : Act} {w : World} (h : Q .normal a w) : Exit.noGoto Q .normal a w := h
set_option maxHeartbeats 3200000 in
theorem ilp_propagate.calls (A0_0 : Option Addr) (c0_0 : Nat) (l0_0 : List Int) (A0_1 : Option Addr) (c0_1 : Nat) (l0_1 : List (S43)) (P1_ : Nat → Prop) (u9000_ : Value) (l1 : List Int) (r1 : Bool) (r2 : List Int) (w0 w : World) (hB : Below w0.heap.size w0 w) (hr0_0 : ∀ W_, Kept w W_ (fun k_ => P1_ k_) → Kd.C (Kd.int .i64) W_ A0_0 l0_0.length l0_0) (hc0_0 : l0_0.length ≤ c0_0) (hr0_1 : ∀ W_, Kept w W_ (fun k_ => P1_ k_) → Kd.C k43 W_ A0_1 l0_1.length l0_1) (hc0_1 : l0_1.length ≤ c0_1) (ho1 : Kd.R (Kd.int .i64) 3 w w0.heap.size P1_ u9000_ l1) (h : ilp_propagate.f l0_0 l0_1 l1 = some (r1, r2)) :
    Calls Try.prog 29 #[.agg #[.slice A0_0 l0_0.length c0_0, .slice A0_1 l0_1.length c0_1], u9000_] w fun e w' => e = .returned (.bool r1) ∧ Kd.R (Kd.int .i64) 3 w' w0.heap.size (fun k_ => (P1_ k_ ∨ w.heap.size ≤ k_)) u9000_ r2 ∧ Below w0.heap.size w0 w' ∧ Kept w w' (fun k_ => P1_ k_) := by
  have hown := fun k hk => ho1.1 k hk
  have hlt : ∀ k, u9000_.ownBlock = some k → k < w.heap.size := fun k hk => Kd.R_lt ho1 k hk
  obtain ⟨A1, c1, rfl⟩ := Kd.R_slice ho1
  have H1 := Lib.hid (fun W_ (hk : Kept w W_ (fun k => (Value.slice A1 l1.length c1).ownBlock = some k)) => hr0_1 W_ (hk.mono hown))
  have HX := Lib.hid h
  have HOWN := Lib.hid hown
  have HLT := Lib.hid hlt
  have HP := Lib.hid (PS.mk (u := .slice A1 l1.length c1) (vb := #[.slice A0_0 l0_0.length c0_0, .slice A0_1 l0_1.length c0_1]) (w := w) (below_alloc hB (.cells #[.slice A0_0 l0_0.length c0_0, .slice A0_1 l0_1.length c0_1] 25)) ((Kept.refl w _).alloc _) (R_mine' (Kd.R_below ho1 (below_alloc (Below.refl _ _) _))) (blk_new _ _))
  have hpost : ∀ w' x, PS w0 w w' (.slice A1 l1.length c1) x #[.slice A0_0 l0_0.length c0_0, .slice A0_1 l0_1.length c0_1] → Kd.R (Kd.int .i64) 3 w' w0.heap.size (fun k_ => (P1_ k_ ∨ w.heap.size ≤ k_)) (.slice A1 l1.length c1) x ∧ Below w0.heap.size w0 w' ∧ Kept w w' (fun k_ => P1_ k_) :=
    fun w' x hp => ⟨Kd.R_mono hp.own (fun k hk => .inl (hown k hk)), hp.bel, hp.kept.mono hown⟩
  have HPO := Lib.hid hpost
  clear hB hr0_0 hr0_1 ho1 h hown hlt hpost
  go_enter Try.func29, Try.ntmps29
  go_wp2
  go_loopg [5] 1000 (fun n v5 wr => ∃ (x : List Int) (ab : Bool), v5 = .bool ab ∧ Hid (PropAt l0_1 r1 r2 n x ab) ∧ Hid (PS w0 w wr (.slice A1 l1.length c1) x #[.slice A0_0 l0_0.length c0_0, .slice A0_1 l0_1.length c0_1]))
  case atStart => exact ⟨l1, true, rfl, .inl ⟨rfl, HX.out⟩, HP.out⟩
  case round =>
    obtain ⟨x, ab, rfl, HA, HS⟩ := hrel
    have c0 : wr.cell? ⟨w.heap.size, 0, none⟩ = some (.slice A0_0 l0_0.length c0_0) := (blk_cell HS.out.box 0).trans rfl
    have c1' : wr.cell? ⟨w.heap.size, 1, none⟩ = some (.slice A0_1 l0_1.length c0_1) := (blk_cell HS.out.box 1).trans rfl
    rcases HA.out with ⟨rfl, hr⟩ | ⟨rfl, rfl, rfl⟩
    · cases gk with
      | zero => cases hr
      | succ n =>
        obtain ⟨q, hq, hr⟩ := Option.bind_eq_some_iff.mp hr
        obtain ⟨cq, x2⟩ := q
        have HQ := Lib.hid hq
        have HR := Lib.hid hr
        clear hq hr HA
        go_wp2
        refine wp_scope_straight ?_
        go_wp2
        refine wp_label ?_
        go_wp2
        go_loopw [5, 14] (fun v5 i wi => ∃ (k : Nat) (y : List Int), k ≤ l0_1.length ∧ i = .int .i64 k ∧ v5 = .bool false ∧ Hid (propPass (l0_1.drop k) y = some (cq, x2)) ∧ Hid (PS w0 w wi (.slice A1 l1.length c1) y #[.slice A0_0 l0_0.length c0_0, .slice A0_1 l0_1.length c0_1])) (fun _ i _ => l0_1.length - (intOf i).toNat)
        case atStart => exact ⟨0, x, Nat.zero_le _, rfl, rfl, HQ.out, HS.out⟩
        case round =>
          clear HS c0 c1' HQ
          obtain ⟨k, y, hk, rfl, rfl, HQ, HS⟩ := hrel
          by_cases hlt : k < l0_1.length
          · obtain ⟨ad, A0, cA, rfl, x0, x1, hcA, hsub⟩ := sub_row H1.out HS.out.kept (S' := fun k => (Value.slice A1 l1.length c1).ownBlock = some k) (fun k hk => .inl hk) (k : Int) (by omega) (by omega)
            rw [Int.toNat_natCast] at x0 x1
            have hdr : l0_1.drop k = rd_T43 l0_1 k :: l0_1.drop (k + 1) := by
              rw [List.drop_eq_getElem_cons hlt]; simp [rd_T43, List.getD_eq_getElem?_getD, List.getElem?_eq_getElem hlt]
            have hq0 := HQ.out
            rw [hdr] at hq0
            obtain ⟨f, hf, hq1⟩ := Option.bind_eq_some_iff.mp hq0
            obtain ⟨done, okb, z⟩ := f
            clear hq0
            generalize rd_T43 l0_1 k = r at *
            have HF := Lib.hid hf
            have HQ2 := Lib.hid hq1
            have HSUB := Lib.hid hsub
            have HW1 := Lib.hid (HS.out.alloc (.cells #[.slice A0 r.f0.length cA, .int .i64 r.f1] 43))
            clear hf hq1 hsub hdr HQ
            go_wp2_with fail
            refine (ilp_force.calls 50000 _ _ _ _ (fun k => (Value.slice A1 l1.length c1).ownBlock = some k) _ _ _ _ _ w0 _ HW1.out.bel (fun W_ hk => HSUB.out W_ (((Kept.refl wr _).alloc _).then_ hk (fun _ h => .inl h))) hcA HW1.out.own HF.out).mono ?_
            rintro e w3 ⟨rfl, hR, hB, hK⟩
            have HS3 := Lib.hid (show PS w0 w w3 (.slice A1 l1.length c1) z #[.slice A0_0 l0_0.length c0_0, .slice (some ad) l0_1.length c0_1] from ⟨hB, HW1.out.kept.then_ hK (fun _ h => .inl h), R_mine' hR, (hK.2 _ (blk_lt HW1.out.box) (fun he => absurd (HLT.out _ he) (Nat.lt_irrefl _))).trans HW1.out.box⟩)
            clear hR hB hK
            have hl43 := (H1.out wr HS.out.kept).2.1
            clear HS HW1 HSUB x0 x1
            cases okb
            · have hq2 : some (0, z) = some (cq, x2) := HQ2.out
              simp only [Option.some.injEq, Prod.mk.injEq] at hq2
              obtain ⟨rfl, rfl⟩ := hq2
              have hr := HR.out
              rw [if_pos rfl, Option.some.injEq, Prod.mk.injEq] at hr
              obtain ⟨rfl, rfl⟩ := hr
              go_wp2
              refine noGoto_ret ?_
              go_ret
              exact ⟨rfl, HPO.out _ _ HS3.out⟩
            · cases done
              · have hq2 : some (1, z) = some (cq, x2) := HQ2.out
                simp only [Option.some.injEq, Prod.mk.injEq] at hq2
                obtain ⟨rfl, rfl⟩ := hq2
                have hr := HR.out
                rw [if_neg (by decide), if_pos rfl] at hr
                have HR2 := Lib.hid (show PropAt l0_1 r1 r2 n z true from .inl ⟨rfl, hr⟩)
                clear hr HR
                go_wp2
                refine noGoto_normal ?_
                go_wp2
                go_roundg n
                case measure => omega
                case rel => exact ⟨z, true, rfl, HR2, HS3⟩
              · have hq2 : propPass (l0_1.drop (k + 1)) z = some (cq, x2) := HQ2.out
                have HQ3 := Lib.hid hq2
                clear hq2 HQ2
                go_wp2
                go_roundw
                case rel => exact ⟨k + 1, z, by omega, by go_num, rfl, HQ3, HS3⟩
                case measure => simp [intOf]; omega
          · have hkl : k = l0_1.length := by omega
            subst hkl
            have hq := HQ.out
            rw [List.drop_length] at hq
            simp only [propPass, Option.some.injEq, Prod.mk.injEq] at hq
            obtain ⟨rfl, rfl⟩ := hq
            have hr := HR.out
            rw [if_neg (by decide), if_neg (by decide), Option.some.injEq, Prod.mk.injEq] at hr
            obtain ⟨rfl, rfl⟩ := hr
            have HR2 := Lib.hid (show PropAt l0_1 true y n y false from .inr ⟨rfl, rfl, rfl⟩)
            clear HR HQ
            go_wp2
            refine noGoto_normal ?_
            go_wp2
            go_roundg n
            case measure => omega
            case rel => exact ⟨y, false, rfl, HR2, HS⟩
    · clear HA
      go_wp2
      go_ret
      exact ⟨rfl, HPO.out _ _ HS.out⟩
end Go.Proofs.Ytiigmklolapckaa.QAll
