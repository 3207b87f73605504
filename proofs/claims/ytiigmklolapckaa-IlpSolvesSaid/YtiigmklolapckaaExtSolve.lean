/- What the solver's Solve computes, and that the machine's call of it comes to that. No condition on the contract but that the rounds suffice. -/
import Derived.Test.YtiigmklolapckaaExtWalk2
import Derived.Laws.EntriesVeiled
namespace Go.Proofs.Ytiigmklolapckaa.QAll
open Go.RowKit Go.Proofs.YtiigmklolapckaaW.PrintWords Go.Proofs.YtiigmklolapckaaW.PrintLast Go.Proofs.YtiigmklolapckaaW.PrintMore
attribute [local go_sem] max2_int min2_int max_two min_two max_three min_three max_four min_four
set_option linter.unusedVariables false
set_option linter.unusedSimpArgs false

/-- Where the search begins. -/
theorem SV.new {w w1 : World} {vb : Array Value} (hB : Below w.heap.size w w1) (hbk : w1.heap[w.heap.size]? = some (.cells vb 25 (0, 0))) :
    SV w w.heap.size (w1.heap.size + 1) w1.heap.size (w1.heap.size + 1 + 1) vb (((w1.alloc (.cells #[.slice none 0 0] 34)).alloc (.cells #[.int .i64 (-1)] 2)).alloc (.cells #[.func (.func 33) #[] #[.pointer (some ⟨w.heap.size, 0, none⟩), .pointer (some ⟨w1.heap.size + 1, 0, none⟩), .pointer (some ⟨w1.heap.size, 0, none⟩), .pointer (some ⟨w1.heap.size + 1 + 1, 0, none⟩)]] 57)) ([], -1) := by
  have hs := hB.size
  have s1 : (w1.alloc (.cells #[.slice none 0 0] 34)).heap.size = w1.heap.size + 1 := Array.size_push _
  have s2 : ((w1.alloc (.cells #[.slice none 0 0] 34)).alloc (.cells #[.int .i64 (-1)] 2)).heap.size = w1.heap.size + 1 + 1 := (Array.size_push _).trans (by rw [s1])
  refine ⟨below_alloc (below_alloc (below_alloc hB _) _) _, by omega, blk_alloc (blk_alloc (blk_alloc hbk _) _) _, ?_, ⟨none, 0, blk_alloc (blk_alloc (blk_new _ _) _) _, Kd.R_nil _ _ _ _ _⟩, ?_⟩
  · have h := blk_new (w1.alloc (.cells #[.slice none 0 0] 34)) (.cells #[.int .i64 (-1)] 2)
    rw [s1] at h
    exact blk_alloc h _
  · have h := blk_new ((w1.alloc (.cells #[.slice none 0 0] 34)).alloc (.cells #[.int .i64 (-1)] 2)) (.cells #[.func (.func 33) #[] #[.pointer (some ⟨w.heap.size, 0, none⟩), .pointer (some ⟨w1.heap.size + 1, 0, none⟩), .pointer (some ⟨w1.heap.size, 0, none⟩), .pointer (some ⟨w1.heap.size + 1 + 1, 0, none⟩)]] 57)
    rw [s2] at h
    exact h
theorem new_ints (W : World) (B n : Nat) (hB : B ≤ W.heap.size) (hn : n ≤ 9223372036854775807) :
    Kd.R (Kd.int .i64) 3 (W.alloc (.cells (madeCells #[.int .i64 0] n) 3)) B (fun k => (Value.slice (some ⟨W.heap.size, 0, none⟩) n n).ownBlock = some k) (.slice (some ⟨W.heap.size, 0, none⟩) n n) (List.replicate n 0) := by
  have h := own_made_of' (enc := Value.int .i64) (d := 0) W B 3 n hB hn
  exact Kd.R_of_own h (fun k hk => hk)
theorem OX.new {w w1 : World} {n : Nat} (hB : Below w.heap.size w w1) (hn : n ≤ 9223372036854775807) (cap : Array Value) :
    OX w ((((w1.alloc (.cells #[.slice none 0 0] 34)).alloc (.cells #[.int .i64 (-1)] 2)).alloc (.cells #[.func (.func 33) #[] cap] 57)).alloc (.cells (madeCells #[.int .i64 0] n) 3)) (.slice (some ⟨w1.heap.size + 1 + 1 + 1, 0, none⟩) n n) (List.replicate n 0) := by
  have s1 : (w1.alloc (.cells #[.slice none 0 0] 34)).heap.size = w1.heap.size + 1 := Array.size_push _
  have s2 : ((w1.alloc (.cells #[.slice none 0 0] 34)).alloc (.cells #[.int .i64 (-1)] 2)).heap.size = w1.heap.size + 1 + 1 := (Array.size_push _).trans (by rw [s1])
  have s3 : (((w1.alloc (.cells #[.slice none 0 0] 34)).alloc (.cells #[.int .i64 (-1)] 2)).alloc (.cells #[.func (.func 33) #[] cap] 57)).heap.size = w1.heap.size + 1 + 1 + 1 := (Array.size_push _).trans (by rw [s2])
  have h := new_ints (((w1.alloc (.cells #[.slice none 0 0] 34)).alloc (.cells #[.int .i64 (-1)] 2)).alloc (.cells #[.func (.func 33) #[] cap] 57)) w.heap.size n (by rw [s3]; have := hB.size; omega) hn
  rwa [s3] at h
theorem start_call {w0 w : World} {pb lb bb sb g m : Nat} {s s' : List Bool × Int} {A0_0 : Option Addr} {c0_0 : Nat} {l0_0 : List Int} {A0_1 : Option Addr} {c0_1 : Nat} {l0_1 : List S43}
    (HR0 : Hid (Kd.C (Kd.int .i64) w0 A0_0 l0_0.length l0_0)) (hc0_0 : l0_0.length ≤ c0_0) (HR1 : Hid (Kd.C k43 w0 A0_1 l0_1.length l0_1)) (hc0_1 : l0_1.length ≤ c0_1) (hm : m ≤ 64)
    (HSR : Hid (srch l0_0 l0_1 100 (List.replicate m (-1)) s = some s')) (HV : Hid (SV w0 pb lb bb sb #[.slice A0_0 l0_0.length c0_0, .slice A0_1 l0_1.length c0_1] w s)) (HX : Hid (OX w0 w (.slice (some ⟨g, 0, none⟩) m m) (List.replicate m (-1)))) :
    Calls Try.prog 33 #[.slice (some ⟨g, 0, none⟩) m m, .pointer (some ⟨pb, 0, none⟩), .pointer (some ⟨lb, 0, none⟩), .pointer (some ⟨bb, 0, none⟩), .pointer (some ⟨sb, 0, none⟩)] w fun e w' =>
        e = .returned (.tuple #[]) ∧ SV w0 pb lb bb sb #[.slice A0_0 l0_0.length c0_0, .slice A0_1 l0_1.length c0_1] w' s' ∧ Kept w w' (SW (.slice (some ⟨g, 0, none⟩) m m) lb bb) := by
  have hl : (List.replicate m (-1 : Int)).length = m := List.length_replicate
  have h := search_calls HR0 hc0_0 HR1 hc0_1 100 w (some ⟨g, 0, none⟩) m (List.replicate m (-1)) s s' (by rw [hl]; exact hm) HSR.out HV.out (by rw [hl]; exact HX.out)
  rw [hl] at h
  exact h
theorem fill_set {n k : Nat} (hk : k < n) : (List.replicate k (-1 : Int) ++ List.replicate (n - k) 0).set k (-1) = List.replicate (k + 1) (-1) ++ List.replicate (n - (k + 1)) 0 := by
  have h2 : List.replicate (n - k) (0 : Int) = 0 :: List.replicate (n - (k + 1)) 0 := by rw [← List.replicate_succ]; congr 1; omega
  rw [h2, List.set_append_right _ _ (by simp), List.length_replicate, Nat.sub_self, List.set_cons_zero, List.replicate_succ']
  simp
set_option maxHeartbeats 3200000 in
theorem ilp_Solve.calls (A0_0 : Option Addr) (c0_0 : Nat) (l0_0 : List Int) (A0_1 : Option Addr) (c0_1 : Nat) (l0_1 : List (S43)) (r1 : List Bool) (r2 : Int) (r3 : Int) (w : World) (hr0_0 : Kd.C (Kd.int .i64) w A0_0 l0_0.length l0_0) (hc0_0 : l0_0.length ≤ c0_0) (hr0_1 : Kd.C k43 w A0_1 l0_1.length l0_1) (hc0_1 : l0_1.length ≤ c0_1) (h : ilp_Solve.f l0_0 l0_1 = some (r1, r2, r3)) :
    Calls Try.prog 15 #[.agg #[.slice A0_0 l0_0.length c0_0, .slice A0_1 l0_1.length c0_1]] w fun e w' => ∃ v0_ : Value, e = .returned (.tuple #[v0_, .int .i64 r2, .int .i64 r3]) ∧ Kd.R Kd.bool 4 w' w.heap.size (fun _ => True) v0_ r1 ∧ Below w.heap.size w w' := by
  obtain ⟨c, hch, h⟩ := Option.bind_eq_some_iff.mp h
  obtain ⟨ca, ce⟩ := c
  have HR0 := Lib.hid hr0_0
  have HR1 := Lib.hid hr0_1
  have HCH := Lib.hid hch
  have hb0 := below_alloc (Below.refl w.heap.size w) (.cells #[.slice A0_0 l0_0.length c0_0, .slice A0_1 l0_1.length c0_1] 25)
  have HB := Lib.hid hb0
  have BK := Lib.hid (blk_new w (.cells #[.slice A0_0 l0_0.length c0_0, .slice A0_1 l0_1.length c0_1] 25))
  clear hr0_0 hr0_1 hch hb0
  have hmf : ∀ (fn : Fn) (first cap : Array Value) (w : World), (Instr.makeFunc fn first cap).run Try.prog w = .ok (.func fn first cap) w := fun _ _ _ _ => rfl
  by_cases he : ce = 0
  · subst he
    simp only [if_true] at h
    by_cases hl : 64 < l0_0.length
    · rw [if_pos hl] at h; cases h
    rw [if_neg hl] at h
    obtain ⟨s, hs, h⟩ := Option.bind_eq_some_iff.mp h
    have HS := Lib.hid hs
    have HH := Lib.hid h
    have hmk := print_make_of (P := Try.prog) 26 3 (.int .i64 0) 8 Try.underlying26 info3 rfl (by decide) l0_0.length (by omega)
    clear hs h
    go_enter Try.func15, Try.ntmps15
    go_wp2_with (go_at_call 22; refine (ilp_Check.calls 50000 _ _ _ _ _ _ _ _ _ (Kd.C_below HR0.out HB.out) hc0_0 (Kd.C_below HR1.out HB.out) hc0_1 HCH.out).mono ?_; rintro e w1 ⟨rfl, hB1⟩; have HSV := Lib.hid (SV.new (below_step HB.out hB1) (blk_below BK.out hB1)); have HXV := Lib.hid (OX.new (below_step HB.out hB1) (n := l0_0.length) (by omega) #[.pointer (some ⟨w.heap.size, 0, none⟩), .pointer (some ⟨w1.heap.size + 1, 0, none⟩), .pointer (some ⟨w1.heap.size, 0, none⟩), .pointer (some ⟨w1.heap.size + 1 + 1, 0, none⟩)]); obtain ⟨p0, p1, p2⟩ := sv_cells HSV; clear hB1)
    have HSV4 := Lib.hid (HSV.out.below (below_alloc (Below.refl _ _) (.cells (madeCells #[.int .i64 0] l0_0.length) 3)))
    clear HSV p0 p1 p2
    go_loopw [27] (fun i wr => ∃ k : Nat, k ≤ l0_0.length ∧ i = .int .i64 k ∧ Hid (SV w w.heap.size (w1.heap.size + 1) w1.heap.size (w1.heap.size + 1 + 1) #[.slice A0_0 l0_0.length c0_0, .slice A0_1 l0_1.length c0_1] wr ([], -1)) ∧ Hid (OX w wr (.slice (some ⟨w1.heap.size + 1 + 1 + 1, 0, none⟩) l0_0.length l0_0.length) (List.replicate k (-1) ++ List.replicate (l0_0.length - k) 0))) (fun i _ => l0_0.length - (intOf i).toNat)
    case atStart => exact ⟨0, Nat.zero_le _, rfl, HSV4, Lib.hid (by have h := HXV.out; rw [show List.replicate 0 (-1 : Int) ++ List.replicate (l0_0.length - 0) 0 = List.replicate l0_0.length 0 by simp]; exact h)⟩
    case round =>
      clear HSV4 HXV
      obtain ⟨k, hk, rfl, HV, HX⟩ := hrel
      by_cases hlt : k < l0_0.length
      · obtain ⟨f1, f2⟩ := Kd.R_celln 0 HX.out (k : Int) (by omega) (by omega)
        have hp := OX.put HX.out (k : Int) (-1)
        rw [Int.toNat_natCast, fill_set hlt] at hp
        rw [Int.toNat_natCast] at f1 f2
        have HP := Lib.hid hp
        have HVP := Lib.hid (HV.out.kept HX.out (below_set (v := .int .i64 (-1)) (j := k) HV.out.bel (HX.out.ge _ rfl)) (Kept.setCell (S := fun q => (Value.slice (some ⟨w1.heap.size + 1 + 1 + 1, 0, none⟩) l0_0.length l0_0.length).ownBlock = some q) (Kept.refl wr _) (p := ⟨w1.heap.size + 1 + 1 + 1, k, none⟩) (.inl rfl) _))
        clear hp
        go_wp2
        go_roundw
        case rel => exact ⟨k + 1, by omega, by go_num, HVP, HP⟩
        case measure => simp [intOf]; omega
      · obtain rfl : k = l0_0.length := by omega
        have hx := HX.out
        rw [Nat.sub_self, List.replicate_zero, List.append_nil] at hx
        have HX2 := Lib.hid hx
        have e9 : wr.cell? ⟨w1.heap.size + 1 + 1, 0, none⟩ = some (.func (.func 33) #[] #[.pointer (some ⟨w.heap.size, 0, none⟩), .pointer (some ⟨w1.heap.size + 1, 0, none⟩), .pointer (some ⟨w1.heap.size, 0, none⟩), .pointer (some ⟨w1.heap.size + 1 + 1, 0, none⟩)]) := (blk_cell HV.out.fn 0).trans rfl
        clear hx HX
        by_cases hneg : s.2 < 0
        · go_wp2_with (go_at_call 33; refine (start_call HR0 hc0_0 HR1 hc0_1 (by omega) HS HV HX2).mono ?_; rintro e w4 ⟨rfl, hS4, hK4⟩; have HS4 := Lib.hid hS4; obtain ⟨q0, q1, q2⟩ := sv_cells HS4; obtain ⟨Ab, cb, hbk, hRb⟩ := hS4.bst; have b0 : w4.cell? ⟨w1.heap.size, 0, none⟩ = some (.slice Ab s.1.length cb) := (blk_cell hbk 0).trans rfl; have HRB := Lib.hid hRb; have HBL := Lib.hid hS4.bel; clear hS4 hK4 hbk hRb HS4)
          have hh := HH.out
          rw [if_pos (by assumption), Option.some.injEq, Prod.mk.injEq, Prod.mk.injEq] at hh
          obtain ⟨rfl, rfl, rfl⟩ := hh
          go_ret3
          exact ⟨_, rfl, Kd.R_nil _ _ _ _ _, HBL.out⟩
        · have hnb : decide (s.2 < 0) = false := decide_eq_false hneg
          have HNE := Lib.hid hneg
          clear hneg
          go_wp2_with (go_at_call 33; refine (start_call HR0 hc0_0 HR1 hc0_1 (by omega) HS HV HX2).mono ?_; rintro e w4 ⟨rfl, hS4, hK4⟩; have HS4 := Lib.hid hS4; obtain ⟨q0, q1, q2⟩ := sv_cells HS4; obtain ⟨Ab, cb, hbk, hRb⟩ := hS4.bst; have b0 : w4.cell? ⟨w1.heap.size, 0, none⟩ = some (.slice Ab s.1.length cb) := (blk_cell hbk 0).trans rfl; have HRB := Lib.hid hRb; have HBL := Lib.hid hS4.bel; clear hS4 hK4 hbk hRb HS4)
          have hh := HH.out
          rw [if_neg (Int.not_lt.2 HNE.out), Option.some.injEq, Prod.mk.injEq, Prod.mk.injEq] at hh
          obtain ⟨rfl, rfl, rfl⟩ := hh
          go_region
          all_goals go_wp2
          go_ret3
          exact ⟨_, rfl, Kd.R_drew HRB.out, HBL.out.drew⟩
  · simp only [if_neg he, Option.some.injEq, Prod.mk.injEq] at h
    obtain ⟨rfl, rfl, rfl⟩ := h
    have heb : (ce == 0) = false := by simpa using he
    go_enter Try.func15, Try.ntmps15
    go_wp2_with (go_at_call 22; refine (ilp_Check.calls 50000 _ _ _ _ _ _ _ _ _ (Kd.C_below HR0.out HB.out) hc0_0 (Kd.C_below HR1.out HB.out) hc0_1 HCH.out).mono ?_; rintro e w1 ⟨rfl, hB1⟩; have HB1 := Lib.hid (below_step HB.out hB1); clear hB1)
    go_ret3
    exact ⟨_, rfl, Kd.R_nil _ _ _ _ _, HB1.out⟩
end Go.Proofs.Ytiigmklolapckaa.QAll
