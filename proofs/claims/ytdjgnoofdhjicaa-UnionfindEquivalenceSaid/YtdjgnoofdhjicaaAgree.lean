/- What the law's agree tells: true. Condition: the object is what follows from at most 150 well-formed operations. -/
import Derived.Test.YtdjgnoofdhjicaaActs
namespace Go.Proofs.Ytdjgnoofdhjicaa.UF
open Go.RowKit Go.Proofs.YtdjgnoofdhjicaaW.PrintWords Go.Proofs.YtdjgnoofdhjicaaW.PrintLast Go.Proofs.YtdjgnoofdhjicaaW.PrintMore Go.Proofs.Ytdjgnoofdhjicaa.QAll
attribute [local go_sem] max2_int min2_int max_two min_two max_three min_three max_four min_four
set_option linter.unusedVariables false
set_option linter.unusedSimpArgs false

section
variable {w0 w : World} {g : Nat} {l : List S56} {v : Value}
theorem lab_par (h : Hid (St w0 w g l v)) : (par l).length = (lab l).length := h.out.inv.len
theorem len_st (h : Hid (St w0 w g l v)) : Calls Try.prog 11 #[.pointer (some ⟨g, 0, none⟩)] w fun e w' => e = .returned (.int .i64 (lab l).length) ∧ w = w' := by
  have := len_calls h.out.uf
  rwa [lab_par h] at this
theorem mark_st (h : Hid (St w0 w g l v)) : Calls Try.prog 15 #[.pointer (some ⟨g, 0, none⟩)] w fun e w' => e = .returned (.int .i64 l.length) ∧ w = w' := by
  have := mark_calls h.out.uf
  rwa [trl_length] at this
theorem rfnd_rd {L : List Int} {i : Int} (h0 : 0 ≤ i) (h1 : i < L.length) : rfnd L i = rd L i := by unfold rfnd; rw [if_pos ⟨h0, h1⟩]
theorem find_in (h : Hid (St w0 w g l v)) (hl : l.length ≤ 150) (i : Int) (h0 : 0 ≤ i) (h1 : i < (lab l).length) :
    Calls Try.prog 13 #[.pointer (some ⟨g, 0, none⟩), .int .i64 i] w fun e w' => e = .returned (.int .i64 (rd (lab l) i)) ∧ w = w' := by
  have := find_st h hl i
  rwa [rfnd_rd h0 h1] at this
theorem same_in (h : Hid (St w0 w g l v)) (hl : l.length ≤ 150) (i j : Int) (h0 : 0 ≤ i) (h1 : i < (lab l).length) (j0 : 0 ≤ j) (j1 : j < (lab l).length) :
    Calls Try.prog 12 #[.pointer (some ⟨g, 0, none⟩), .int .i64 i, .int .i64 j] w fun e w' => e = .returned (.bool (rd (lab l) i == rd (lab l) j)) ∧ w = w' := by
  have hlo := (h.out.inv.lo i h0 h1).1
  have := same_st1 h hl i j (by rw [rfnd_rd h0 h1]; exact hlo)
  rwa [rfnd_rd h0 h1, rfnd_rd j0 j1] at this
theorem roots_st (h : Hid (St w0 w g l v)) (hl : l.length ≤ 150) :
    Calls Try.prog 19 #[.pointer (some ⟨g, 0, none⟩)] w fun e w' => ∃ v1, e = .returned v1 ∧ Kd.R (Kd.int .i64) 3 w' w.heap.size (fun _ => True) v1 (pick (fun y => rd (lab l) y == y) (lab l).length) ∧ Below w.heap.size w w' := by
  have := roots_calls h.out.uf (h.out.plen hl)
  rwa [roots_eq h.out.inv] at this
end

/-- In w: the object, the operations l behind it, and the row of l's labels. -/
structure Ag (w0 : World) (B1 g : Nat) (l : List S56) (v : Value) (A : Option Addr) (c : Nat) (w : World) : Prop where
  st : Hid (St w0 w g l v)
  row : Hid (Kd.R (Kd.int .i64) 3 w B1 (fun _ => True) (.slice A (lab l).length c) (lab l))
section
variable {w0 w w' : World} {B1 g c : Nat} {l : List S56} {v : Value} {A : Option Addr}
theorem Ag.below (h : Ag w0 B1 g l v A c w) (hb : Below w.heap.size w w') : Ag w0 B1 g l v A c w' := ⟨Lib.hid (h.st.out.below hb), Lib.hid (Kd.R_below h.row.out hb)⟩
theorem Ag.drew (h : Ag w0 B1 g l v A c w) : Ag w0 B1 g l v A c w.drew := ⟨Lib.hid h.st.out.drew, h.row⟩
theorem Ag.at (h : Ag w0 B1 g l v A c w) (i : Nat) (h1 : i < (lab l).length) : ∃ ad, A = some ad ∧ w.cell? (ad.add i) = some (.int .i64 (rd (lab l) i)) := by
  have := Kd.at_int (Kd.R_reads' h.row.out).2.2 (i : Int) (by omega) (by omega)
  rwa [Int.toNat_natCast] at this
end

set_option maxHeartbeats 3200000 in
set_option maxRecDepth 100000 in
theorem agree_calls {w0 w : World} {g : Nat} {l : List S56} {v : Value} (hS : St w0 w g l v) (hl : l.length ≤ 150) :
    Calls Try.prog 14 #[.pointer (some ⟨g, 0, none⟩), v] w fun e w' => e = .returned (.bool true) ∧ St w0 w' g l v := by
  obtain ⟨A0, c0, rfl, hc0, hC⟩ := hS.read
  have H0 := Lib.hid hS
  have HC := Lib.hid hC
  have hll := lab_length_le l
  clear hS hC
  go_enter Try.func14, Try.ntmps14
  go_wp2_with (first
    | (go_at_call 24; refine (labels_calls H0.out.ok hl hc0 HC.out).mono ?_; rintro e w1 ⟨v1, rfl, hR, hB⟩; obtain ⟨A1, c1, hv1⟩ := Kd.R_slice hR; subst hv1; have H1 := Lib.hid (Ag.mk (Lib.hid (H0.out.below hB)) (Lib.hid hR)); clear hR hB H0 HC)
    | (go_at_call 11; refine (len_st H1.out.st).mono ?_; rintro e w2 ⟨rfl, rfl⟩)
    | (go_at_call 15; refine (mark_st H1.out.st).mono ?_; rintro e w2 ⟨rfl, rfl⟩)
    | (go_at_call 19; refine (roots_st H1.out.st hl).mono ?_; rintro e w3 ⟨v3, rfl, hR, hB⟩; obtain ⟨A3, c3, hv3⟩ := Kd.R_slice hR; subst hv3; have H3 := Lib.hid (H1.out.below hB); have R3 := Lib.hid hR; clear hR hB H1)
    | (go_at_call 26; obtain ⟨_, _, hx, _, hC3⟩ := H3.out.st.out.read; cases hx; refine (rroots_calls H3.out.st.out.ok hl hc0 hC3).mono ?_; rintro e w4 ⟨v4, rfl, hR, hB⟩; obtain ⟨A4, c4, hv4⟩ := Kd.R_slice hR; subst hv4; have H4 := Lib.hid (H3.out.below hB); have R3' := Lib.hid (Kd.R_below R3.out hB); have R4 := Lib.hid hR; clear hR hB H3 R3 hC3)
    | (go_at_call 25; refine (rsame_calls (by have := pick_length (fun y => rd (lab l) y == y) (lab l).length; omega) (Kd.R_reads' R3'.out).2.2 (Kd.R_reads' R3'.out).2.1 (Kd.R_reads' R4.out).2.2 (Kd.R_reads' R4.out).2.1).mono ?_; rintro e w5 ⟨rfl, hd⟩; have H5 := Lib.hid (H4.out.below hd.below); clear H4 R3' R4 hd))
  have hAtN := fun (w' : World) (h : Hid (Ag w0 w.heap.size g l (.slice A0 l.length c0) A1 c1 w')) (i : Nat) (hi : i < (lab l).length) => h.out.at i hi
  go_loopw [32] (fun i wr => ∃ k : Nat, k ≤ (lab l).length ∧ i = .int .i64 k ∧ Hid (Ag w0 w.heap.size g l (.slice A0 l.length c0) A1 c1 wr)) (fun i _ => (lab l).length - (intOf i).toNat)
  case atStart => exact ⟨0, Nat.zero_le _, rfl, H5⟩
  case round =>
    obtain ⟨k, hk, rfl, H6⟩ := hrel
    by_cases hlt : k < (lab l).length
    · obtain ⟨ad, rfl, x0⟩ := H6.out.at k hlt
      have x0d : wr.drew.cell? (ad.add k) = some (.int .i64 (rd (lab l) k)) := x0
      have H6d := Lib.hid H6.out.drew
      go_wp2
      go_region_held3 (fun w' => w'.cell? (ad.add k) = some (.int .i64 (rd (lab l) k)) ∧ Hid (Ag w0 w.heap.size g l (.slice A0 l.length c0) (some ad) c1 w'))
        (first | (refine ⟨?_, ?_⟩ <;> assumption) | go_keep)
        (first
          | (go_at_call 13; refine (find_in (Ag.st (Hid.out (by assumption))) hl _ (by omega) (by omega)).mono ?_; rintro e w1 ⟨rfl, rfl⟩)
          | (go_at_call 20; refine (members_st (Ag.st (Hid.out (by assumption))) hl _).mono ?_; rintro e w2 ⟨v2, rfl, hR, hB, hS1⟩; have q1 : w2.cell? (ad.add k) = some (.int .i64 (rd (lab l) k)) := cell_kept hB (by first | assumption | go_simp); have q3 := Lib.hid (Ag.below (Hid.out (by assumption)) hB); have R2 := Lib.hid hR; obtain ⟨A2, c2, hv2⟩ := Kd.R_slice hR; subst hv2; clear hB hS1 hR)
          | (go_at_call 27; refine (rmembers_st (Ag.st (Hid.out (by assumption))) hl hc0 _).mono ?_; rintro e w3 ⟨v3, rfl, hR, hB, hS1⟩; have q1 : w3.cell? (ad.add k) = some (.int .i64 (rd (lab l) k)) := cell_kept hB (by first | assumption | go_simp); have q3 := Lib.hid (Ag.below (Hid.out (by assumption)) hB); have R2' := Lib.hid (Kd.R_below R2.out hB); have R3 := Lib.hid hR; obtain ⟨A3, c3, hv3⟩ := Kd.R_slice hR; subst hv3; clear hB hS1 hR R2)
          | (go_at_call 25; refine (rsame_calls (by have := rmem_length (lab l) k; omega) (Kd.R_reads' R2'.out).2.2 (Kd.R_reads' R2'.out).2.1 (Kd.R_reads' R3.out).2.2 (Kd.R_reads' R3.out).2.1).mono ?_; rintro e w4 ⟨rfl, hd⟩; have hB := hd.below; have q1 : w4.cell? (ad.add k) = some (.int .i64 (rd (lab l) k)) := cell_kept hB (by first | assumption | go_simp); have q4 := Lib.hid (Ag.below (Hid.out (by assumption)) hB); clear hB hd))
      all_goals clear H6 H6d x0 x0d q1 H5 hAtN
      all_goals go_wp2
      all_goals
        go_loopw [55] (fun i wr => ∃ j : Nat, j ≤ (lab l).length ∧ i = .int .i64 j ∧ Hid (Ag w0 w.heap.size g l (.slice A0 l.length c0) (some ad) c1 wr)) (fun i _ => (lab l).length - (intOf i).toNat)
        case atStart => exact ⟨0, Nat.zero_le _, rfl, q4⟩
        case round =>
          obtain ⟨j, hj, rfl, H7⟩ := hrel
          obtain ⟨_, hA, x0⟩ := H7.out.at k hlt
          cases hA
          by_cases hjt : j < (lab l).length
          · obtain ⟨_, hA, y0⟩ := H7.out.at j hjt
            cases hA
            have x0d : wr.drew.cell? (ad.add k) = some (.int .i64 (rd (lab l) k)) := x0
            have y0d : wr.drew.cell? (ad.add j) = some (.int .i64 (rd (lab l) j)) := y0
            have H7d := Lib.hid H7.out.drew
            go_wp2
            go_region_held3 (fun w' => w'.cell? (ad.add k) = some (.int .i64 (rd (lab l) k)) ∧ w'.cell? (ad.add j) = some (.int .i64 (rd (lab l) j)) ∧ Hid (Ag w0 w.heap.size g l (.slice A0 l.length c0) (some ad) c1 w'))
              (first | (refine ⟨?_, ?_, ?_⟩ <;> assumption) | go_keep)
              ((go_at_call 12; refine (same_in (Ag.st (Hid.out (by assumption))) hl _ _ (by omega) (by omega) (by omega) (by omega)).mono ?_; rintro e w1 ⟨rfl, rfl⟩))
            all_goals go_wp2
            all_goals
              go_roundw
              case rel => exact ⟨j + 1, by omega, by go_num, H7d⟩
              case measure => simp [intOf]; omega
          · have hjl : j = (lab l).length := by omega
            subst hjl
            go_wp2
            go_roundw
            case rel => exact ⟨k + 1, by omega, by go_num, H7⟩
            case measure => simp [intOf]; omega
    · have hkl : k = (lab l).length := by omega
      subst hkl
      go_wp2
      go_ret

      exact ⟨rfl, H6.out.st.out⟩
end Go.Proofs.Ytdjgnoofdhjicaa.UF
