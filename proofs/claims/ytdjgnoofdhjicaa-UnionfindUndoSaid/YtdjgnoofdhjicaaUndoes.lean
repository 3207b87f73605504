/- What the law Undo tells: true, for every script and every more. -/
import Derived.Test.YtdjgnoofdhjicaaAgree
namespace Go.Proofs.Ytdjgnoofdhjicaa.UF
open Go.RowKit Go.Proofs.YtdjgnoofdhjicaaW.PrintWords Go.Proofs.YtdjgnoofdhjicaaW.PrintLast Go.Proofs.YtdjgnoofdhjicaaW.PrintMore Go.Proofs.Ytdjgnoofdhjicaa.QAll
attribute [local go_sem] max2_int min2_int max_two min_two max_three min_three max_four min_four
set_option linter.unusedVariables false
set_option linter.unusedSimpArgs false

/-- The object is what follows from l and m; v is the slice that holds l. -/
structure Mid (w0 w : World) (g : Nat) (l : List S56) (v : Value) (m : List S56) : Prop where
  bel : Below w0.heap.size w0 w
  uf : UF w0.heap.size w g (par (l ++ m)) (trl (l ++ m))
  own : Kd.R k56 56 w w0.heap.size (fun _ => True) v l
  ok : Ok (l ++ m)
section
variable {w0 w : World} {g : Nat} {l m : List S56} {v : Value}
theorem Mid.start (h : St w0 w g l v) : Mid w0 w g l v [] := ⟨h.bel, by rw [List.append_nil]; exact h.uf, h.own, by rw [List.append_nil]; exact h.ok⟩
theorem Mid.drew (h : Mid w0 w g l v m) : Mid w0 w.drew g l v m := ⟨h.bel.drew, h.uf, h.own, h.ok⟩
theorem Mid.inv (h : Mid w0 w g l v m) : Inv (lab (l ++ m)) (par (l ++ m)) := stt_inv h.ok
theorem Mid.plen (h : Mid w0 w g l v m) (hl : (l ++ m).length ≤ 150) : (par (l ++ m)).length ≤ 1000 := by have := h.inv.len; have := lab_length_le (l ++ m); omega
theorem mid_make (h : Hid (Mid w0 w g l v m)) (hl : (l ++ m).length ≤ 150) :
    Calls Try.prog 16 #[.pointer (some ⟨g, 0, none⟩)] w fun e w' => ∃ r m', e = .returned (.int .i64 r) ∧ Mid w0 w' g l v m' ∧ m'.length ≤ m.length + 1 := by
  refine (make_calls h.out.uf h.out.bel (h.out.plen hl) (St.tlen hl)).mono ?_
  rintro e w1 ⟨rfl, hU, hB, hO⟩
  have hm := lab_make (l ++ m) h.out.ok
  refine ⟨_, m ++ [⟨true, 0, 0⟩], rfl, ⟨hB, ?_, R_other h.out.own hO (by decide), ?_⟩, by simp⟩
  · rw [← List.append_assoc, hm.1, hm.2.1]; exact hU
  · rw [← List.append_assoc]; exact h.out.ok.snoc (.inl rfl)
theorem mid_union (h : Hid (Mid w0 w g l v m)) (hl : (l ++ m).length ≤ 150) (a b : Int) :
    Calls Try.prog 17 #[.pointer (some ⟨g, 0, none⟩), .int .i64 a, .int .i64 b] w fun e w' => ∃ r i m', e = .returned (.tuple #[.int .i64 r, .bool i]) ∧ Mid w0 w' g l v m' ∧ m'.length ≤ m.length + 1 := by
  have hi := h.out.inv
  by_cases h1 : fnd (par (l ++ m)) a < 0 ∨ fnd (par (l ++ m)) b < 0
  · refine (union_out h.out.uf (h.out.plen hl) hi.well a b h1).mono ?_
    rintro e w1 ⟨rfl, rfl⟩
    exact ⟨_, _, m, rfl, h.out, by omega⟩
  by_cases h2 : fnd (par (l ++ m)) b = fnd (par (l ++ m)) a
  · refine (union_eq h.out.uf (h.out.plen hl) hi.well a b (by omega) h2).mono ?_
    rintro e w1 ⟨rfl, rfl⟩
    exact ⟨_, _, m, rfl, h.out, by omega⟩
  · refine (union_join h.out.uf h.out.bel (h.out.plen hl) (St.tlen hl) hi.well a b (by omega) (by omega) (by omega)).mono ?_
    rintro e w1 ⟨rfl, hU, hB, hO⟩
    have hj := lab_join (l ++ m) h.out.ok a b (by rw [← hi.find]; omega) (by rw [← hi.find]; omega) (by rw [← hi.find, ← hi.find]; omega)
    refine ⟨_, _, m ++ [⟨false, a, b⟩], rfl, ⟨hB, ?_, R_other h.out.own hO (by decide), ?_⟩, by simp⟩
    · rw [← List.append_assoc, hj.2.1, hj.2.2]; exact hU
    · rw [← List.append_assoc]; exact hj.1
theorem mid_undo (h : Hid (Mid w0 w g l v m)) (hl : (l ++ m).length ≤ 150) :
    Calls Try.prog 18 #[.pointer (some ⟨g, 0, none⟩), .int .i64 l.length] w fun e w' => e = .returned (.bool true) ∧ St w0 w' g l v := by
  have hn : m.length ≤ (l ++ m).length := by simp
  have ht := und_take m.length (l ++ m) h.out.ok hn
  have e1 : (l ++ m).length - m.length = l.length := by simp
  have e2 : (l ++ m).take l.length = l := by simp
  rw [e1, e2] at ht
  refine (undo_yes h.out.uf h.out.bel (h.out.plen hl) (St.tlen hl) l.length m.length (by omega) (by rw [trl_length]; simp) ht.2).mono ?_
  rintro e w1 ⟨rfl, hU, hB, hO⟩
  rw [ht.1, Int.toNat_natCast, ← trl_take, e2] at hU
  have hk := Ok.take h.out.ok l.length
  rw [e2] at hk
  exact ⟨rfl, hB, hU, R_other h.out.own hO (by decide), hk⟩
end

set_option maxHeartbeats 3200000 in
theorem undoes_calls (w : World) (As : Option Addr) (cs : Nat) (s : List S37) (At : Option Addr) (ct : Nat) (t : List S37) (hC : Kd.C k37 w As s.length s) (hc : s.length ≤ cs) (hD : Kd.C k37 w At t.length t) (hct : t.length ≤ ct) :
    Calls Try.prog 6 #[.slice As s.length cs, .slice At t.length ct] w fun e w' => e = .returned (.bool true) ∧ Below w.heap.size w w' := by
  have HC := Lib.hid hC
  have HD := Lib.hid hD
  have hrl := runl_length s
  clear hC hD
  by_cases hl : s.length ≤ 20
  · by_cases hm : t.length ≤ 20
    · go_enter Try.func6, Try.ntmps6
      go_wp2_with fail
      refine (new_calls w.heap.size w (Nat.le_refl _)).mono ?_
      rintro e w1 ⟨g, rfl, hU, hB⟩
      have HS := Lib.hid (St.new hU hB)
      clear hU hB
      go_wp2_with (first
        | (go_at_call 10; refine (run_calls HS.out HC.out (by omega)).mono ?_; rintro e w2 ⟨v2, rfl, hS2⟩; obtain ⟨A2, c2, hv2, hc2, _⟩ := hS2.read; subst hv2; have HS2 := Lib.hid hS2; clear hS2)
        | (go_at_call 15; refine (mark_st HS2).mono ?_; rintro e w3 ⟨rfl, rfl⟩))
      generalize hlr : runl s = l at *
      go_loopw [46] (fun i wr => ∃ k : Nat, ∃ m : List S56, k ≤ t.length ∧ m.length ≤ k ∧ i = .int .i64 k ∧ Hid (Mid w wr g l (.slice A2 l.length c2) m)) (fun i _ => t.length - (intOf i).toNat)
      case atStart => exact ⟨0, [], Nat.zero_le _, Nat.le_refl _, rfl, Lib.hid (Mid.start HS2.out)⟩
      case round =>
        obtain ⟨k, m, hk, hmk, rfl, H1⟩ := hrel
        by_cases hlt : k < t.length
        · obtain ⟨ad, rfl, x0, x1, x2⟩ := at_T37 (Kd.C_below HD.out H1.out.bel) k (by omega) (by omega)
          rw [Int.toNat_natCast] at x0 x1 x2
          obtain ⟨a, ha⟩ : ∃ a, a = rd_T37 t k := ⟨_, rfl⟩
          rw [← ha] at x0 x1 x2
          have HA := Lib.hid ha
          clear ha
          have y1 : wr.drew.cell? _ = some (.int .i64 a.f1) := x1
          have y2 : wr.drew.cell? _ = some (.int .i64 a.f2) := x2
          have H1d := Lib.hid H1.out.drew
          have hlm : (l ++ m).length ≤ 150 := by simp; omega
          by_cases h1 : a.f0 = 1
          · go_wp2_with (go_at_call 16; refine (mid_make H1 hlm).mono ?_; rintro e w4 ⟨r4, m4, rfl, hM, hm4⟩; have HM := Lib.hid hM; clear hM)
            go_roundw
            case rel => exact ⟨k + 1, m4, by omega, by omega, by go_num, HM⟩
            case measure => simp [intOf]; omega
          · go_wp2
            go_region_held3 (fun w' => w'.cell? ⟨(ad.add (k * 3)).block, (ad.add (k * 3)).off + 1, none⟩ = some (.int .i64 a.f1) ∧ w'.cell? ⟨(ad.add (k * 3)).block, (ad.add (k * 3)).off + 2, none⟩ = some (.int .i64 a.f2))
              (first | (refine ⟨?_, ?_⟩ <;> assumption) | go_keep)
              ((go_at_call 17; refine (mid_union (by assumption) hlm _ _).mono ?_; rintro e w4 ⟨r4, i4, m4, rfl, hM, hm4⟩; obtain ⟨_, hq, z1, z2⟩ := at_T37 (Kd.C_below HD.out hM.bel) k (by omega) (by omega); cases hq; rw [Int.toNat_natCast, ← HA.out] at z1 z2; have HM := Lib.hid hM; clear hM))
            all_goals go_wp2
            all_goals
              go_roundw
              case rel => exact ⟨k + 1, m4, by omega, by omega, by go_num, HM⟩
              case measure => simp [intOf]; omega
        · have hkl : k = t.length := by omega
          subst hkl
          go_wp2_with (first
            | (go_at_call 18; refine (mid_undo H1 (by simp; omega)).mono ?_; rintro e w5 ⟨rfl, hS5⟩; have HS5 := Lib.hid hS5; clear hS5)
            | (go_at_call 14; refine (agree_calls HS5.out (by omega)).mono ?_; rintro e w6 ⟨rfl, hS6⟩; have HS6 := Lib.hid hS6; clear hS6)
            | (go_at_call 9; refine (lives_st HS6.out).mono ?_; rintro e w7 ⟨rfl, hB7⟩))
          go_ret
          exact ⟨rfl, hB7⟩
    · go_enter Try.func6, Try.ntmps6
      go_wp2_with fail
      refine (new_calls w.heap.size w (Nat.le_refl _)).mono ?_
      rintro e w1 ⟨g, rfl, hU, hB⟩
      have HS := Lib.hid (St.new hU hB)
      clear hU hB
      go_wp2_with (go_at_call 9; refine (lives_st HS.out).mono ?_; rintro e w3 ⟨rfl, hB3⟩)
      go_ret
      exact ⟨rfl, hB3⟩
  · go_enter Try.func6, Try.ntmps6
    go_wp2_with fail
    refine (new_calls w.heap.size w (Nat.le_refl _)).mono ?_
    rintro e w1 ⟨g, rfl, hU, hB⟩
    have HS := Lib.hid (St.new hU hB)
    clear hU hB
    go_wp2_with (go_at_call 9; refine (lives_st HS.out).mono ?_; rintro e w3 ⟨rfl, hB3⟩)
    go_ret
    exact ⟨rfl, hB3⟩
end Go.Proofs.Ytdjgnoofdhjicaa.UF
