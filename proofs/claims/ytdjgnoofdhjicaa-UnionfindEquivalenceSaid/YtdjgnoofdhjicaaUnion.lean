/- What Union of the union-find object does. Condition: the object is a Sets with at most 1000 elements and steps, each parent at most its element. -/
import Derived.Test.YtdjgnoofdhjicaaMake
namespace Go.Proofs.Ytdjgnoofdhjicaa.UF
open Go.RowKit Go.Proofs.YtdjgnoofdhjicaaW.PrintWords Go.Proofs.YtdjgnoofdhjicaaW.PrintLast Go.Proofs.YtdjgnoofdhjicaaW.PrintMore Go.Proofs.Ytdjgnoofdhjicaa.QAll
attribute [local go_sem] max2_int min2_int max_two min_two max_three min_three max_four min_four
set_option linter.unusedVariables false

theorem root_range {p : List Int} (hW : Well p) : ∀ (n : Nat) (y : Int), 0 ≤ y → y < p.length → 0 ≤ root p n y ∧ root p n y ≤ y := by
  intro n
  induction n with
  | zero => intro y h0 h1; exact ⟨h0, Int.le_refl _⟩
  | succ n ih =>
    intro y h0 h1
    have hw := hW y h0 h1
    simp only [root]
    split
    · exact ⟨h0, Int.le_refl _⟩
    · have := ih (rd p y) hw.1 (by omega)
      exact ⟨this.1, by omega⟩
theorem fnd_in {p : List Int} (hW : Well p) {x : Int} (h : inB p x = true) : 0 ≤ fnd p x ∧ fnd p x < p.length := by
  have hx : 0 ≤ x ∧ x < p.length := by simpa [inB] using h
  unfold fnd
  rw [if_pos h]
  have := root_range hW x.toNat x hx.1 hx.2
  unfold rt
  exact ⟨this.1, by omega⟩
theorem fnd_out {p : List Int} {x : Int} (h : inB p x = false) : fnd p x = -1 := by unfold fnd; rw [h]; rfl
theorem fnd_lt {p : List Int} (hW : Well p) (x : Int) : fnd p x < p.length := by
  cases h : inB p x
  · rw [fnd_out h]; omega
  · exact (fnd_in hW h).2

set_option maxHeartbeats 800000 in
theorem union_out {B : Nat} {w : World} {g : Nat} {p : List Int} {t : List S53} (hU : UF B w g p t) (hl : p.length ≤ 1000) (hW : Well p) (a b : Int) (h : fnd p a < 0 ∨ fnd p b < 0) :
    Calls Try.prog 17 #[.pointer (some ⟨g, 0, none⟩), .int .i64 a, .int .i64 b] w fun e w' => e = .returned (.tuple #[.int .i64 (-1), .bool false]) ∧ w = w' := by
  have hv := valid_calls hU
  have ha := find_calls hU hl hW a
  have hb := find_calls hU hl hW b
  clear hU hW
  generalize fnd p a = x at *
  generalize fnd p b = y at *
  by_cases hx : x < 0
  · clear h
    go_enter Try.func17, Try.ntmps17
    go_wp2_with (go_at_call 22; refine hv.mono ?_; rintro e w' ⟨rfl, rfl⟩)
    refine ha.mono ?_
    rintro e w' ⟨rfl, rfl⟩
    go_wp2_with fail
    refine hb.mono ?_
    rintro e w' ⟨rfl, rfl⟩
    go_wp2
    go_ret2
    exact ⟨rfl, rfl⟩
  · have hy : y < 0 := by omega
    clear h
    go_enter Try.func17, Try.ntmps17
    go_wp2_with (go_at_call 22; refine hv.mono ?_; rintro e w' ⟨rfl, rfl⟩)
    refine ha.mono ?_
    rintro e w' ⟨rfl, rfl⟩
    go_wp2_with fail
    refine hb.mono ?_
    rintro e w' ⟨rfl, rfl⟩
    go_wp2
    go_ret2
    exact ⟨rfl, rfl⟩
set_option maxHeartbeats 800000 in
theorem union_eq {B : Nat} {w : World} {g : Nat} {p : List Int} {t : List S53} (hU : UF B w g p t) (hl : p.length ≤ 1000) (hW : Well p) (a b : Int) (h0 : 0 ≤ fnd p a) (h : fnd p b = fnd p a) :
    Calls Try.prog 17 #[.pointer (some ⟨g, 0, none⟩), .int .i64 a, .int .i64 b] w fun e w' => e = .returned (.tuple #[.int .i64 (fnd p a), .bool false]) ∧ w = w' := by
  have hv := valid_calls hU
  have ha := find_calls hU hl hW a
  have hb := find_calls hU hl hW b
  rw [h] at hb
  clear hU hW h
  generalize fnd p a = x at *
  go_enter Try.func17, Try.ntmps17
  go_wp2_with (go_at_call 22; refine hv.mono ?_; rintro e w' ⟨rfl, rfl⟩)
  refine ha.mono ?_
  rintro e w' ⟨rfl, rfl⟩
  go_wp2_with fail
  refine hb.mono ?_
  rintro e w' ⟨rfl, rfl⟩
  go_wp2
  go_ret2
  exact ⟨rfl, rfl⟩

set_option maxHeartbeats 1600000 in
/-- The join, told over the two roots: x the one, y the other; lo the lesser, hi the greater. -/
theorem union_core {B : Nat} {w0 w : World} {g : Nat} {p : List Int} {t : List S53} (hU : UF B w g p t) (hB0 : Below B w0 w) (hlt : t.length ≤ 1000) (a b x y lo hi : Int)
    (hv : Calls Try.prog 22 #[.pointer (some ⟨g, 0, none⟩)] w fun e w' => e = .returned (.bool true) ∧ w = w')
    (ha : Calls Try.prog 13 #[.pointer (some ⟨g, 0, none⟩), .int .i64 a] w fun e w' => e = .returned (.int .i64 x) ∧ w = w')
    (hb : Calls Try.prog 13 #[.pointer (some ⟨g, 0, none⟩), .int .i64 b] w fun e w' => e = .returned (.int .i64 y) ∧ w = w')
    (hx0 : 0 ≤ x) (hy0 : 0 ≤ y) (hne : (x == y) = false) (hlo : (if y < x then y else x) = lo) (hhi : (if x < y then y else x) = hi) (hi0 : 0 ≤ hi) (hi1 : hi < p.length) :
    Calls Try.prog 17 #[.pointer (some ⟨g, 0, none⟩), .int .i64 a, .int .i64 b] w fun e w' => e = .returned (.tuple #[.int .i64 lo, .bool true]) ∧ UF B w' g (p.set hi.toNat lo) (t ++ [⟨false, hi⟩]) ∧ Below B w0 w' ∧ Other w w' := by
  obtain ⟨hB, vp, vt, hbk, hp, ht⟩ := hU
  obtain ⟨bp, c, rfl, hbb, _, _⟩ := Kd.R_form hp (by omega)
  have hgb := blk_lt hbk
  have hneb : some g ≠ (Value.slice (some ⟨bp, 0, none⟩) p.length c).ownBlock := Kd.R_ne hp hbk (by decide)
  have hgp : g ≠ bp := fun e => hneb (by rw [e]; rfl)
  obtain ⟨A2, c2, rfl⟩ := Kd.R_slice ht
  have h1 : w.cell? ⟨g, 1, none⟩ = some (.slice (some ⟨bp, 0, none⟩) p.length c) := (blk_cell hbk 1).trans rfl
  have h2 : w.cell? ⟨g, 2, none⟩ = some (.slice A2 t.length c2) := (blk_cell hbk 2).trans rfl
  obtain ⟨hc, hf⟩ := Kd.R_celln 0 hp hi hi0 hi1
  obtain ⟨hpp, hpg⟩ := Kd.R_putg hp hi lo
  have HP := Lib.hid hpp
  have HT1 := Lib.hid (Kd.R_over' (v := .slice (some ⟨bp, 0, none⟩) p.length c) ht (Kd.R_typed hp) (by decide) hpg)
  have HBK1 := Lib.hid (blk_far hbk (p := ⟨bp, hi.toNat, none⟩) hgp (.int .i64 lo))
  have HB1 := Lib.hid (hB0.setCell (p := ⟨bp, hi.toNat, none⟩) hbb (.int .i64 lo))
  have HO := Lib.hid (Other.set (w := w) (a := ⟨bp, hi.toNat, none⟩) (u := .int .i64 lo) (by obtain ⟨cs, h⟩ := Kd.R_typed hp bp rfl; exact ⟨cs, 3, _, h, .inl rfl⟩))
  have c2_ : (w.setCell ⟨bp, hi.toNat, none⟩ (.int .i64 lo)).cell? ⟨g, 2, none⟩ = some (.slice A2 t.length c2) := (blk_cell HBK1.out 2).trans rfl
  clear hbk hp ht hB0 hpp hpg hneb
  go_enter Try.func17, Try.ntmps17
  go_wp2_with (go_at_call 22; refine hv.mono ?_; rintro e w' ⟨rfl, rfl⟩)
  refine ha.mono ?_
  rintro e w' ⟨rfl, rfl⟩
  go_wp2_with fail
  refine hb.mono ?_
  rintro e w' ⟨rfl, rfl⟩
  go_wp2_with (first
    | ((with_reducible refine gate_builtin (b := .append) (xs := #[.tmp 48, .tmp 51]) rfl ?_); at_builtin; refine Kd.R_append k53 (w0 := w0) B rfl (.tmp 48) (.tmp 51) 45 53 (.agg #[.bool false, .int .i64 0]) 16 rfl Try.underlying45 inf53 rfl (by decide) (by omega) (.slice A2 t.length c2) t (⟨false, hi⟩ : S53) [.bool false, .int .i64 hi] (fun _ => True) (fun _ => False) rfl ?bX ?bP (fun _ hk => hk.elim) (fun _ _ => trivial) HT1.out HB1.out ?bS ?bL ?_; (case bX => show Value.slice (some ⟨w.heap.size, 0, none⟩) 1 1 = _; simp [World.setCell]); (case bP => exact k53_mkM _ _ _ _); (case bS => simp [World.setCell]; omega); (case bL => omega); intro v2 w2 ht2 hb2 hg2 _; obtain ⟨A3, c3, hv2⟩ := Kd.R_slice ht2; rw [List.length_append, List.length_singleton] at hv2; subst hv2; have HT2 := Lib.hid ht2; have HB3 := Lib.hid hb2; have HG2 := Lib.hid hg2; clear ht2 hb2 hg2; have HBK3 := Lib.hid (blk_grown HBK1.out HG2.out (Kd.R_ne HT1.out HBK1.out (by decide))); have f2 := blk_frozen HBK3.out 2; have c4_ : w2.cell? ⟨g, 2, none⟩ = some (.slice A2 t.length c2) := (blk_cell HBK3.out 2).trans rfl)
    )
  go_ret2
  have hp2 := Kd.R_over' (v := .slice A2 t.length c2) HP.out (Kd.R_typed HT1.out) (by decide) HG2.out
  have bk4 := blk_put HBK3.out 2 (.slice A3 (t.length + 1) c3) (cs' := #[.bool true, .slice (some ⟨bp, 0, none⟩) p.length c, .slice A3 (t.length + 1) c3]) rfl
  refine ⟨rfl, ⟨hB, _, _, bk4, Kd.R_set hp2 HBK3.out (by decide) 2 _, Kd.R_set HT2.out HBK3.out (by decide) 2 _⟩, HB3.out.setCell (p := ⟨g, 2, none⟩) hB _, ?_⟩
  have o3 : Other _ w2 := Other.of_grown HG2.out (fun k hk => by obtain ⟨cs, h⟩ := Kd.R_typed HT1.out k hk; exact ⟨cs, 53, _, h, .inr (.inl rfl)⟩)
  have o4 := Other.set (a := ⟨g, 2, none⟩) (u := .slice A3 (t.length + 1) c3) ⟨_, _, _, HBK3.out, .inr (.inr rfl)⟩
  exact (HO.out.trans o3).trans o4

theorem union_join {B : Nat} {w0 w : World} {g : Nat} {p : List Int} {t : List S53} (hU : UF B w g p t) (hB0 : Below B w0 w) (hl : p.length ≤ 1000) (hlt : t.length ≤ 1000) (hW : Well p) (a b : Int) (hx : 0 ≤ fnd p a) (hy : 0 ≤ fnd p b) (hne : ¬ fnd p a = fnd p b) :
    Calls Try.prog 17 #[.pointer (some ⟨g, 0, none⟩), .int .i64 a, .int .i64 b] w fun e w' => e = .returned (.tuple #[.int .i64 (mn (fnd p a) (fnd p b)), .bool true]) ∧
      UF B w' g (p.set (mx (fnd p a) (fnd p b)).toNat (mn (fnd p a) (fnd p b))) (t ++ [⟨false, mx (fnd p a) (fnd p b)⟩]) ∧ Below B w0 w' ∧ Other w w' := by
  have h1 := fnd_lt hW a
  have h2 := fnd_lt hW b
  exact union_core hU hB0 hlt a b (fnd p a) (fnd p b) _ _ (valid_calls hU) (find_calls hU hl hW a) (find_calls hU hl hW b) hx hy (by simpa using hne) rfl rfl (by unfold mx; split <;> omega) (by unfold mx; split <;> omega)
end Go.Proofs.Ytdjgnoofdhjicaa.UF
