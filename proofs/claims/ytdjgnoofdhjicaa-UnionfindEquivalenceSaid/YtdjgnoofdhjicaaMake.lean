/- What New and Make of the union-find object do. Condition: the object is a Sets with at most 1000 elements and at most 1000 steps. -/
import Derived.Test.YtdjgnoofdhjicaaObj
namespace Go.Proofs.Ytdjgnoofdhjicaa.UF
open Go.RowKit Go.Proofs.YtdjgnoofdhjicaaW.PrintWords Go.Proofs.YtdjgnoofdhjicaaW.PrintLast Go.Proofs.YtdjgnoofdhjicaaW.PrintMore Go.Proofs.Ytdjgnoofdhjicaa.QAll
attribute [local go_sem] max2_int min2_int max_two min_two max_three min_three max_four min_four
set_option linter.unusedVariables false

theorem inf3 : (Try.prog.info? 3).map (fun i => (i.zero, i.size, i.bytes)) = some (some (.int .i64 0), 1, 8) := by kernel_rfl
theorem inf53 : (Try.prog.info? 53).map (fun i => (i.zero, i.size, i.bytes)) = some (some (.agg #[.bool false, .int .i64 0]), 2, 16) := by kernel_rfl

/-! ### Other -/
theorem Other.refl (w : World) : Other w w := ⟨Nat.le_refl _, fun _ _ _ => rfl⟩
theorem Other.trans {a b c : World} (h : Other a b) (k : Other b c) : Other a c := by
  refine ⟨Nat.le_trans h.1 k.1, fun i hi ht => ?_⟩
  have h1 := h.2 i hi ht
  exact (k.2 i (Nat.lt_of_lt_of_le hi h.1) (fun cs e fr hb => ht cs e fr (h1 ▸ hb))).trans h1
theorem Other.of_below {w w' : World} (h : Below w.heap.size w w') : Other w w' := ⟨h.size, fun i hi _ => h.block i hi⟩
theorem Other.of_grown {w w' : World} {row : Option Nat} (h : w.grownBy w' row) (hr : ∀ k, row = some k → ∃ cs e fr, w.heap[k]? = some (.cells cs e fr) ∧ (e = 3 ∨ e = 53 ∨ e = 47)) : Other w w' := by
  refine ⟨h.size, fun i hi ht => h.block i hi ?_⟩
  intro e
  obtain ⟨cs, e', fr, hb, ho⟩ := hr i e.symm
  have k := ht cs e' fr hb
  rcases ho with h | h | h
  · exact k.1 h
  · exact k.2.1 h
  · exact k.2.2 h
theorem Other.set {w : World} {a : Addr} {u : Value} (hr : ∃ cs e fr, w.heap[a.block]? = some (.cells cs e fr) ∧ (e = 3 ∨ e = 53 ∨ e = 47)) : Other w (w.setCell a u) := by
  refine ⟨by simp [World.setCell], fun i hi ht => Below.heap_setCell w a u i ?_⟩
  intro e
  subst e
  obtain ⟨cs, e', fr, hb, ho⟩ := hr
  have k := ht cs e' fr hb
  rcases ho with h | h | h
  · exact k.1 h
  · exact k.2.1 h
  · exact k.2.2 h

set_option maxHeartbeats 400000 in
theorem new_calls (B : Nat) (w : World) (hB : B ≤ w.heap.size) : Calls Try.prog 8 #[] w fun e w' => ∃ g, e = .returned (.pointer (some ⟨g, 0, none⟩)) ∧ UF B w' g [] [] ∧ Below w.heap.size w w' := by
  go_enter Try.func8, Try.ntmps8
  go_wp2
  go_ret
  exact ⟨_, rfl, ⟨hB, _, _, blk_new _ _, Kd.R_nil _ _ _ _ _, Kd.R_nil _ _ _ _ _⟩, (Below.refl _ _).alloc (Nat.le_refl _) _⟩

set_option maxHeartbeats 1600000 in
theorem make_calls {B : Nat} {w0 w : World} {g : Nat} {p : List Int} {t : List S53} (hU : UF B w g p t) (hB0 : Below B w0 w) (hl : p.length ≤ 1000) (hlt : t.length ≤ 1000) :
    Calls Try.prog 16 #[.pointer (some ⟨g, 0, none⟩)] w fun e w' => e = .returned (.int .i64 p.length) ∧ UF B w' g (p ++ [(p.length : Int)]) (t ++ [⟨true, p.length⟩]) ∧ Below B w0 w' ∧ Other w w' := by
  have hv := valid_calls hU
  obtain ⟨hB, vp, vt, hb, hp, ht⟩ := hU
  have hgb := blk_lt hb
  have hne1 := Kd.R_ne hp hb (by decide)
  have hne2 := Kd.R_ne ht hb (by decide)
  have htyp := Kd.R_typed hp
  have htyt := Kd.R_typed ht
  obtain ⟨A, c, rfl⟩ := Kd.R_slice hp
  obtain ⟨A2, c2, rfl⟩ := Kd.R_slice ht
  have h1 : w.cell? ⟨g, 1, none⟩ = some (.slice A p.length c) := (blk_cell hb 1).trans rfl
  have HP := Lib.hid hp
  have HT := Lib.hid ht
  have HBK := Lib.hid hb
  have HB0 := Lib.hid hB0
  have HN1 := Lib.hid hne1
  have HN2 := Lib.hid hne2
  have HY1 := Lib.hid htyp
  have HY2 := Lib.hid htyt
  clear hp ht hb hB0 hne1 hne2 htyp htyt
  go_enter Try.func16, Try.ntmps16
  go_wp2_with (first
    | (go_at_call 22; refine hv.mono ?_; rintro e w' ⟨rfl, rfl⟩)
    | ((with_reducible refine gate_builtin (b := .append) (xs := #[.tmp 16, .tmp 18]) rfl ?_); at_builtin; refine Kd.R_append (Kd.int .i64) (w0 := w0) B rfl (.tmp 16) (.tmp 18) 42 3 (.int .i64 0) 8 rfl Try.underlying42 inf3 rfl (by decide) (by omega) (.slice A p.length c) p (p.length : Int) [.int .i64 (p.length : Int)] (fun _ => True) (fun _ => False) rfl rfl ?aP (fun _ hk => hk.elim) (fun _ _ => trivial) HP.out HB0.out ?aS ?aL ?_; (case aP => exact rfl); (case aS => omega); (case aL => omega); intro v1 w1 hp1 hb1 hg1 _; obtain ⟨A1, c1, hv1⟩ := Kd.R_slice hp1; rw [List.length_append, List.length_singleton] at hv1; subst hv1; have HP1 := Lib.hid hp1; have HB1 := Lib.hid hb1; have HG1 := Lib.hid hg1; have HBK1 := Lib.hid (blk_grown HBK.out hg1 HN1.out); clear hp1 hb1 hg1; have HT1 := Lib.hid (Kd.R_set (Kd.R_over' (v := .slice A p.length c) HT.out HY1.out (by decide) HG1.out) HBK1.out (by decide) 1 (.slice A1 (p.length + 1) c1)); have HBK2 := Lib.hid (blk_put HBK1.out 1 (.slice A1 (p.length + 1) c1) (cs' := #[.bool true, .slice A1 (p.length + 1) c1, .slice A2 t.length c2]) rfl); have HB2 := Lib.hid (HB1.out.setCell (p := ⟨g, 1, none⟩) hB (.slice A1 (p.length + 1) c1)); have f1 := blk_frozen HBK1.out 1; have hs1 := HG1.out.size; have c1_ : w1.cell? ⟨g, 1, none⟩ = some (.slice A p.length c) := (blk_cell HBK1.out 1).trans rfl; have c2_ : w1.cell? ⟨g, 2, none⟩ = some (.slice A2 t.length c2) := (blk_cell HBK1.out 2).trans rfl)
    | ((with_reducible refine gate_builtin (b := .append) (xs := #[.tmp 26, .tmp 29]) rfl ?_); at_builtin; refine Kd.R_append k53 (w0 := w0) B rfl (.tmp 26) (.tmp 29) 45 53 (.agg #[.bool false, .int .i64 0]) 16 rfl Try.underlying45 inf53 rfl (by decide) (by omega) (.slice A2 t.length c2) t (⟨true, p.length⟩ : S53) [.bool true, .int .i64 (p.length : Int)] (fun _ => True) (fun _ => False) rfl ?bX ?bP (fun _ hk => hk.elim) (fun _ _ => trivial) HT1.out HB2.out ?bS ?bL ?_; (case bX => show Value.slice (some ⟨w1.heap.size, 0, none⟩) 1 1 = _; simp [World.setCell]); (case bP => exact k53_mkM _ _ _ _); (case bS => simp [World.setCell]; omega); (case bL => omega); intro v2 w2 ht2 hb2 hg2 _; obtain ⟨A3, c3, hv2⟩ := Kd.R_slice ht2; rw [List.length_append, List.length_singleton] at hv2; subst hv2; have HT2 := Lib.hid ht2; have HB3 := Lib.hid hb2; have HG2 := Lib.hid hg2; clear ht2 hb2 hg2; have HBK3 := Lib.hid (blk_grown HBK2.out HG2.out (Kd.R_ne HT1.out HBK2.out (by decide))); have f2 := blk_frozen HBK3.out 2; have c4_ : w2.cell? ⟨g, 2, none⟩ = some (.slice A2 t.length c2) := (blk_cell HBK3.out 2).trans rfl)
    )
  go_ret
  have hp2 := Kd.R_over' (v := .slice A2 t.length c2) (show Kd.R (Kd.int .i64) 3 (w1.setCell ⟨g, 1, none⟩ (.slice A1 (p.length + 1) c1)) B (fun _ => True) (.slice A1 (p.length + 1) c1) (p ++ [(p.length : Int)]) from Kd.R_set HP1.out HBK1.out (by decide) 1 _) (Kd.R_typed HT1.out) (by decide) HG2.out
  have bk4 := blk_put HBK3.out 2 (.slice A3 (t.length + 1) c3) (cs' := #[.bool true, .slice A1 (p.length + 1) c1, .slice A3 (t.length + 1) c3]) rfl
  refine ⟨rfl, ⟨hB, _, _, bk4, Kd.R_set hp2 HBK3.out (by decide) 2 _, Kd.R_set HT2.out HBK3.out (by decide) 2 _⟩, HB3.out.setCell (p := ⟨g, 2, none⟩) hB _, ?_⟩
  have o1 : Other w w1 := Other.of_grown HG1.out (fun k hk => by obtain ⟨cs, h⟩ := HY1.out k hk; exact ⟨cs, 3, _, h, .inl rfl⟩)
  have o2 := Other.set (a := ⟨g, 1, none⟩) (u := .slice A1 (p.length + 1) c1) ⟨_, _, _, HBK1.out, .inr (.inr rfl)⟩
  have o3 : Other _ w2 := Other.of_grown HG2.out (fun k hk => by obtain ⟨cs, h⟩ := Kd.R_typed HT1.out k hk; exact ⟨cs, 53, _, h, .inr (.inl rfl)⟩)
  have o4 := Other.set (a := ⟨g, 2, none⟩) (u := .slice A3 (t.length + 1) c3) ⟨_, _, _, HBK3.out, .inr (.inr rfl)⟩
  exact ((o1.trans o2).trans o3).trans o4
end Go.Proofs.Ytdjgnoofdhjicaa.UF
