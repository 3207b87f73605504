/- What Roots and Members of the union-find object return, and Undo where it refuses. Condition: the object is a Sets with at most 1000 elements, each parent at most its element. -/
import Derived.Test.YtdjgnoofdhjicaaUndo
import Derived.Deep.QuietTactic
import Derived.BigQuiet
namespace Go.Proofs.Ytdjgnoofdhjicaa.UF
open Go.RowKit Go.Proofs.YtdjgnoofdhjicaaW.PrintWords Go.Proofs.YtdjgnoofdhjicaaW.PrintLast Go.Proofs.YtdjgnoofdhjicaaW.PrintMore Go.Proofs.Ytdjgnoofdhjicaa.QAll
attribute [local go_sem] max2_int min2_int max_two min_two max_three min_three max_four min_four
set_option linter.unusedVariables false

set_option maxHeartbeats 400000 in
theorem undo_no {B : Nat} {w : World} {g : Nat} {p : List Int} {t : List S53} (hU : UF B w g p t) (hlt : t.length ≤ 1000) (m : Int) (h : m < 0 ∨ (t.length : Int) < m) :
    Calls Try.prog 18 #[.pointer (some ⟨g, 0, none⟩), .int .i64 m] w fun e w' => e = .returned (.bool false) ∧ w = w' := by
  have hv := valid_calls hU
  obtain ⟨hB, vp, vt, hbk, hp, ht⟩ := hU
  obtain ⟨A2, c2, rfl⟩ := Kd.R_slice ht
  have h2 : w.cell? ⟨g, 2, none⟩ = some (.slice A2 t.length c2) := (blk_cell hbk 2).trans rfl
  clear hbk hp ht
  by_cases h0 : m < 0
  · clear h
    go_enter Try.func18, Try.ntmps18
    go_wp2_with (go_at_call 22; refine hv.mono ?_; rintro e w' ⟨rfl, rfl⟩)
    go_ret
    exact ⟨rfl, rfl⟩
  · have h1 : (t.length : Int) < m := by omega
    clear h
    go_enter Try.func18, Try.ntmps18
    go_wp2_with (go_at_call 22; refine hv.mono ?_; rintro e w' ⟨rfl, rfl⟩)
    go_ret
    exact ⟨rfl, rfl⟩

theorem UF.drewN {B : Nat} {w : World} {g : Nat} {p : List Int} {t : List S53} (h : UF B w g p t) (n : Nat) : UF B (w.drewN n) g p t := h
set_option maxHeartbeats 400000 in
theorem roots1_calls {B : Nat} {w : World} {g : Nat} {p : List Int} {t : List S53} (hU : UF B w g p t) (bs : Nat) (hs : w.cell? ⟨bs, 0, none⟩ = some (.pointer (some ⟨g, 0, none⟩))) (x : Int) (h0 : 0 ≤ x) (h1 : x < p.length) :
    Calls Try.prog 29 #[.int .i64 x, .pointer (some ⟨bs, 0, none⟩)] w fun e w' => e = .returned (.bool (rd p x == x)) ∧ w = w' := by
  obtain ⟨hB, vp, vt, hbk, hp, ht⟩ := hU
  obtain ⟨b, c, rfl, _, _, _⟩ := Kd.R_form hp (by omega)
  have h3 : w.cell? ⟨g, 1, none⟩ = some (.slice (some ⟨b, 0, none⟩) p.length c) := (blk_cell hbk 1).trans rfl
  have hc := cell_at hp x h0 h1
  clear hbk hp ht
  go_enter Try.func29, Try.ntmps29
  go_wp2
  go_ret
  exact ⟨rfl, rfl⟩
set_option maxHeartbeats 400000 in
theorem members1_calls {B : Nat} {w : World} {g : Nat} {p : List Int} {t : List S53} (hU : UF B w g p t) (hl : p.length ≤ 1000) (hW : Well p) (bs br : Nat) (r : Int) (hs : w.cell? ⟨bs, 0, none⟩ = some (.pointer (some ⟨g, 0, none⟩))) (hr : w.cell? ⟨br, 0, none⟩ = some (.int .i64 r)) (x : Int) :
    Calls Try.prog 30 #[.int .i64 x, .pointer (some ⟨bs, 0, none⟩), .pointer (some ⟨br, 0, none⟩)] w fun e w' => e = .returned (.bool (fnd p x == r)) ∧ ∃ n, w' = w.drewN n := by
  have hf : ∀ n, Calls Try.prog 13 #[.pointer (some ⟨g, 0, none⟩), .int .i64 x] (w.drewN n) fun e w' => e = .returned (.int .i64 (fnd p x)) ∧ w' = w.drewN n := fun n => (find_calls (hU.drewN n) hl hW x).mono fun _ _ ⟨a, b⟩ => ⟨a, b.symm⟩
  clear hU hW
  go_enter Try.func30, Try.ntmps30
  go_wp2
  go_quiet ((go_at_call 13; exact Calls.quiet_of_same (hf _)))
  go_wp2
  go_ret
  exact ⟨rfl, _, rfl⟩
/-- The elements from 0 to n - 1 that are wanted. -/
def pick (want : Int → Bool) : Nat → List Int
  | 0 => []
  | n + 1 => if want n = true then pick want n ++ [(n : Int)] else pick want n
theorem pick_length (want : Int → Bool) (n : Nat) : (pick want n).length ≤ n := by
  induction n with
  | zero => simp [pick]
  | succ n ih =>
    simp only [pick]
    split
    · rw [List.length_append, List.length_singleton]; omega
    · omega
set_option maxHeartbeats 1600000 in
theorem collect29 {B : Nat} {w : World} {g : Nat} {p : List Int} {t : List S53} (hU : UF B w g p t) (hl : p.length ≤ 1000) (bs : Nat) (hs : w.cell? ⟨bs, 0, none⟩ = some (.pointer (some ⟨g, 0, none⟩))) :
    Calls Try.prog 28 #[.pointer (some ⟨g, 0, none⟩), .func (.func 29) #[] #[.pointer (some ⟨bs, 0, none⟩)]] w fun e w' => ∃ v, e = .returned v ∧ Kd.R (Kd.int .i64) 3 w' w.heap.size (fun _ => True) v (pick (fun x => rd p x == x) p.length) ∧ Below w.heap.size w w' := by
  have hlen := len_calls hU
  have HU := Lib.hid hU
  have HS := Lib.hid hs
  clear hU hs
  go_enter Try.func28, Try.ntmps28
  go_wp2_with (go_at_call 11; refine hlen.mono ?_; rintro e w' ⟨rfl, rfl⟩)
  go_loopw [5, 9] (fun v i wr => ∃ k : Nat, k ≤ p.length ∧ i = .int .i64 k ∧ Hid (Kd.R (Kd.int .i64) 3 wr w.heap.size (fun _ => True) v (pick (fun x => rd p x == x) k)) ∧ Hid (Below w.heap.size w wr)) (fun _ i _ => p.length - (intOf i).toNat)
  case atStart => exact ⟨0, Nat.zero_le _, rfl, Kd.R_nil _ _ _ _ _, Below.refl _ _⟩
  case round =>
    obtain ⟨k, hk, rfl, R1, B1⟩ := hrel
    obtain ⟨A, c, hv⟩ := Kd.R_slice R1.out
    subst hv
    have hpl := pick_length (fun x => rd p x == x) k
    by_cases hlt : k < p.length
    · have hc := roots1_calls (HU.out.below B1.out) bs ((B1.out.cell (World.block_lt_of_cell? w _ HS.out)).trans HS.out) k (by omega) (by omega)
      have hsz := B1.out.size
      cases hw : (rd p k == (k : Int))
      · rw [hw] at hc
        have hp1 : pick (fun x => rd p x == x) (k + 1) = pick (fun x => rd p x == x) k := by simp only [pick, hw]; simp
        have HP := Lib.hid hp1
        clear hw hp1
        go_wp2_with (go_at_call 29; refine hc.mono ?_; rintro e w' ⟨rfl, rfl⟩)
        go_roundw
        case rel => exact ⟨k + 1, by omega, by go_num, by unfold Hid; rw [HP.out]; exact R1.out, B1⟩
        case measure => simp [intOf]; omega
      · rw [hw] at hc
        have hp1 : pick (fun x => rd p x == x) (k + 1) = pick (fun x => rd p x == x) k ++ [(k : Int)] := by simp only [pick, hw]; simp
        have HP := Lib.hid hp1
        clear hw hp1
        generalize pick (fun x => rd p x == x) k = l at *
        go_wp2_with (first
          | (go_at_call 29; refine hc.mono ?_; rintro e w' ⟨rfl, rfl⟩)
          | ((with_reducible refine gate_builtin (b := .append) (xs := #[.tmp 15, .tmp 17]) rfl ?_); at_builtin; refine Kd.R_append (Kd.int .i64) (w0 := w) w.heap.size rfl (.tmp 15) (.tmp 17) 42 3 (.int .i64 0) 8 rfl Try.underlying42 inf3 rfl (by decide) (by omega) (.slice A l.length c) l (k : Int) [.int .i64 (k : Int)] (fun _ => True) (fun _ => False) rfl rfl ?aP (fun _ hk => hk.elim) (fun _ _ => trivial) R1.out B1.out ?aS ?aL ?_; (case aP => exact rfl); (case aS => omega); (case aL => omega); intro v1 w1 hp1 hb1 hg1 _; have HP1 := Lib.hid hp1; have HB1 := Lib.hid hb1; clear hp1 hb1 hg1))
        go_roundw
        case rel => exact ⟨k + 1, by omega, by go_num, by unfold Hid; rw [HP.out]; exact HP1.out, HB1⟩
        case measure => simp [intOf]; omega
    · have hkl : k = p.length := by omega
      subst hkl
      go_wp2
      go_ret
      exact ⟨_, rfl, R1.out, B1.out⟩

set_option maxHeartbeats 1600000 in
theorem collect30 {B : Nat} {w : World} {g : Nat} {p : List Int} {t : List S53} (hU : UF B w g p t) (hl : p.length ≤ 1000) (hW : Well p) (bs br : Nat) (r : Int) (hr : w.cell? ⟨br, 0, none⟩ = some (.int .i64 r)) (hs : w.cell? ⟨bs, 0, none⟩ = some (.pointer (some ⟨g, 0, none⟩))) :
    Calls Try.prog 28 #[.pointer (some ⟨g, 0, none⟩), .func (.func 30) #[] #[.pointer (some ⟨bs, 0, none⟩), .pointer (some ⟨br, 0, none⟩)]] w fun e w' => ∃ v, e = .returned v ∧ Kd.R (Kd.int .i64) 3 w' w.heap.size (fun _ => True) v (pick (fun x => fnd p x == r) p.length) ∧ Below w.heap.size w w' := by
  have hlen := len_calls hU
  have HU := Lib.hid hU
  have HS := Lib.hid hs
  have HR := Lib.hid hr
  have HW := Lib.hid hW
  clear hU hs hr hW
  go_enter Try.func28, Try.ntmps28
  go_wp2_with (go_at_call 11; refine hlen.mono ?_; rintro e w' ⟨rfl, rfl⟩)
  go_loopw [5, 9] (fun v i wr => ∃ k : Nat, k ≤ p.length ∧ i = .int .i64 k ∧ Hid (Kd.R (Kd.int .i64) 3 wr w.heap.size (fun _ => True) v (pick (fun x => fnd p x == r) k)) ∧ Hid (Below w.heap.size w wr)) (fun _ i _ => p.length - (intOf i).toNat)
  case atStart => exact ⟨0, Nat.zero_le _, rfl, Kd.R_nil _ _ _ _ _, Below.refl _ _⟩
  case round =>
    obtain ⟨k, hk, rfl, R1, B1⟩ := hrel
    obtain ⟨A, c, hv⟩ := Kd.R_slice R1.out
    subst hv
    have hpl := pick_length (fun x => fnd p x == r) k
    by_cases hlt : k < p.length
    · have hc := members1_calls (HU.out.below B1.out) hl HW.out bs br r ((B1.out.cell (World.block_lt_of_cell? w _ HS.out)).trans HS.out) ((B1.out.cell (World.block_lt_of_cell? w _ HR.out)).trans HR.out) k
      have hsz := B1.out.size
      cases hw : (fnd p k == r)
      · rw [hw] at hc
        have hp1 : pick (fun x => fnd p x == r) (k + 1) = pick (fun x => fnd p x == r) k := by simp only [pick, hw]; simp
        have HP := Lib.hid hp1
        clear hw hp1
        go_wp2_with (go_at_call 30; refine hc.mono ?_; rintro e w2 ⟨rfl, nq, hq⟩; have R2 := Lib.hid (hq ▸ Kd.R_drewN R1.out nq); have B2 := Lib.hid (hq ▸ pw_below_drewN B1.out nq); have hsz2 : w.heap.size ≤ w2.heap.size := B2.out.size; clear hq)
        go_roundw
        case rel => exact ⟨k + 1, by omega, by go_num, by unfold Hid; rw [HP.out]; exact R2.out, B2⟩
        case measure => simp [intOf]; omega
      · rw [hw] at hc
        have hp1 : pick (fun x => fnd p x == r) (k + 1) = pick (fun x => fnd p x == r) k ++ [(k : Int)] := by simp only [pick, hw]; simp
        have HP := Lib.hid hp1
        clear hw hp1
        generalize pick (fun x => fnd p x == r) k = l at *
        go_wp2_with (first
          | (go_at_call 30; refine hc.mono ?_; rintro e w2 ⟨rfl, nq, hq⟩; have R2 := Lib.hid (hq ▸ Kd.R_drewN R1.out nq); have B2 := Lib.hid (hq ▸ pw_below_drewN B1.out nq); have hsz2 : w.heap.size ≤ w2.heap.size := B2.out.size; clear hq)
          | ((with_reducible refine gate_builtin (b := .append) (xs := #[.tmp 15, .tmp 17]) rfl ?_); at_builtin; refine Kd.R_append (Kd.int .i64) (w0 := w) w.heap.size rfl (.tmp 15) (.tmp 17) 42 3 (.int .i64 0) 8 rfl Try.underlying42 inf3 rfl (by decide) (by omega) (.slice A l.length c) l (k : Int) [.int .i64 (k : Int)] (fun _ => True) (fun _ => False) rfl rfl ?aP (fun _ hk => hk.elim) (fun _ _ => trivial) R2.out B2.out ?aS ?aL ?_; (case aP => exact rfl); (case aS => omega); (case aL => omega); intro v1 w1 hp1 hb1 hg1 _; have HP1 := Lib.hid hp1; have HB1 := Lib.hid hb1; clear hp1 hb1 hg1))
        go_roundw
        case rel => exact ⟨k + 1, by omega, by go_num, by unfold Hid; rw [HP.out]; exact HP1.out, HB1⟩
        case measure => simp [intOf]; omega
    · have hkl : k = p.length := by omega
      subst hkl
      go_wp2
      go_ret
      exact ⟨_, rfl, R1.out, B1.out⟩
end Go.Proofs.Ytdjgnoofdhjicaa.UF
