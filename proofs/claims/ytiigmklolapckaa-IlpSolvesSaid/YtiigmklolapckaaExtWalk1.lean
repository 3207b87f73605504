/- The memory that the solver's search works in, and what its callees do there. -/
import Derived.Test.YtiigmklolapckaaExtSrch
namespace Go.Proofs.Ytiigmklolapckaa.QAll
open Go.RowKit Go.Proofs.YtiigmklolapckaaW.PrintWords Go.Proofs.YtiigmklolapckaaW.PrintLast Go.Proofs.YtiigmklolapckaaW.PrintMore
attribute [local go_sem] max2_int min2_int max_two min_two max_three min_three max_four min_four
set_option linter.unusedVariables false
set_option linter.unusedSimpArgs false

/-- The search's memory in w: the problem's copy (pb), the least cost so far (lb), the best solution so far (bb), the search itself (sb); all else that was there when Solve began is as it was. -/
structure SV (w0 : World) (pb lb bb sb : Nat) (vb : Array Value) (w : World) (s : List Bool × Int) : Prop where
  bel : Below w0.heap.size w0 w
  ge : w0.heap.size ≤ pb ∧ w0.heap.size ≤ lb ∧ w0.heap.size ≤ bb ∧ w0.heap.size ≤ sb
  box : w.heap[pb]? = some (.cells vb 25 (0, 0))
  lst : w.heap[lb]? = some (.cells #[.int .i64 s.2] 2 (0, 0))
  bst : ∃ A c, w.heap[bb]? = some (.cells #[.slice A s.1.length c] 34 (0, 0)) ∧ Kd.R Kd.bool 4 w w0.heap.size (fun _ => True) (.slice A s.1.length c) s.1
  fn : w.heap[sb]? = some (.cells #[.func (.func 33) #[] #[.pointer (some ⟨pb, 0, none⟩), .pointer (some ⟨lb, 0, none⟩), .pointer (some ⟨bb, 0, none⟩), .pointer (some ⟨sb, 0, none⟩)]] 57 (0, 0))
/-- The assignment x, in a row of the search's own. -/
def OX (w0 w : World) (u : Value) (x : List Int) : Prop := Kd.R (Kd.int .i64) 3 w w0.heap.size (fun k => u.ownBlock = some k) u x

section
variable {w0 w w' : World} {pb lb bb sb : Nat} {vb : Array Value} {s : List Bool × Int} {u : Value} {x y : List Int}
theorem SV.below (h : SV w0 pb lb bb sb vb w s) (hb : Below w.heap.size w w') : SV w0 pb lb bb sb vb w' s := by
  obtain ⟨A, c, h1, h2⟩ := h.bst
  exact ⟨below_step h.bel hb, h.ge, blk_below h.box hb, blk_below h.lst hb, ⟨A, c, blk_below h1 hb, Kd.R_below h2 hb⟩, blk_below h.fn hb⟩
theorem SV.drew (h : SV w0 pb lb bb sb vb w s) : SV w0 pb lb bb sb vb w.drew s := ⟨h.bel.drew, h.ge, h.box, h.lst, h.bst, h.fn⟩
theorem OX.below (h : OX w0 w u x) (hb : Below w.heap.size w w') : OX w0 w' u x := Kd.R_below h hb
theorem OX.drew (h : OX w0 w u x) : OX w0 w.drew u x := h
theorem OX.ge (h : OX w0 w u x) (k : Nat) (hk : u.ownBlock = some k) : w0.heap.size ≤ k := by
  rcases Kd.R_base2 h with e | ⟨j, e, hj⟩
  · rw [e] at hk; cases hk
  · rw [e] at hk; injection hk with hk; omega
/-- What a callee does that writes into x's row alone. -/
theorem SV.kept (h : SV w0 pb lb bb sb vb w s) (hX : OX w0 w u x) (hb : Below w0.heap.size w0 w') (hk : Kept w w' (fun k => u.ownBlock = some k)) : SV w0 pb lb bb sb vb w' s := by
  obtain ⟨A, c, h1, h2⟩ := h.bst
  have hne : ∀ {g t : Nat} {cs : Array Value}, w.heap[g]? = some (.cells cs t (0, 0)) → 3 ≠ t → w'.heap[g]? = some (.cells cs t (0, 0)) := fun hg ht =>
    (hk.2 _ (blk_lt hg) (fun e => Kd.R_ne hX hg ht e.symm)).trans hg
  refine ⟨hb, h.ge, hne h.box (by decide), hne h.lst (by decide), ⟨A, c, hne h1 (by decide), Kd.R_mono (Kd.R_move (Kd.R_bound h2) (fun k hq => hk.2 k hq.2.2.1 (fun e => ?_))) (fun _ hq => hq.1)⟩, hne h.fn (by decide)⟩
  obtain ⟨_, _, _, q, hq, cells, hc⟩ := hq
  obtain ⟨cells', hc'⟩ := Kd.R_typed hX k e
  rw [hc] at hc'
  injection hc' with hc'
  injection hc' with _ e2 _
  subst e2
  revert hq
  decide
section
variable {A0_0 : Option Addr} {c0_0 : Nat} {l0_0 : List Int} {A0_1 : Option Addr} {c0_1 : Nat} {l0_1 : List S43} {A1 : Option Addr} {n1 c1 : Nat}
theorem propagate_sv (h : Hid (SV w0 pb lb bb sb vb w s)) (hX : Hid (OX w0 w u x)) (hr0_0 : Hid (Kd.C (Kd.int .i64) w0 A0_0 l0_0.length l0_0)) (hc0_0 : l0_0.length ≤ c0_0) (hr0_1 : Hid (Kd.C k43 w0 A0_1 l0_1.length l0_1)) (hc0_1 : l0_1.length ≤ c0_1) (ok : Bool) (y : List Int) (hf : Hid (ilp_propagate.f l0_0 l0_1 x = some (ok, y))) :
    Calls Try.prog 29 #[.agg #[.slice A0_0 l0_0.length c0_0, .slice A0_1 l0_1.length c0_1], u] w fun e w' => e = .returned (.bool ok) ∧ SV w0 pb lb bb sb vb w' s ∧ OX w0 w' u y ∧ Kept w w' (fun k => u.ownBlock = some k) := by
  refine (ilp_propagate.calls _ _ _ _ _ _ (fun k => u.ownBlock = some k) u x ok y w0 w h.out.bel (Kd.C_kept_came (Kd.heap_int .i64) hr0_0.out h.out.bel hX.out.ge) hc0_0 (Kd.C_kept_came k43_heap hr0_1.out h.out.bel hX.out.ge) hc0_1 hX.out hf.out).mono ?_
  rintro e w1 ⟨rfl, hR, hB, hK⟩
  exact ⟨rfl, h.out.kept hX.out hB hK, ⟨fun k hk => hk, hR.2⟩, hK⟩
theorem bound_sv (h : Hid (SV w0 pb lb bb sb vb w s)) (hX : Hid (OX w0 w (.slice A1 n1 c1) x)) (hr0_0 : Hid (Kd.C (Kd.int .i64) w0 A0_0 l0_0.length l0_0)) (hc0_0 : l0_0.length ≤ c0_0) (hr0_1 : Hid (Kd.C k43 w0 A0_1 l0_1.length l0_1)) (hc0_1 : l0_1.length ≤ c0_1) (b : Int) (hf : Hid (ilp_bound.f 50000 l0_0 l0_1 x = some b)) :
    Calls Try.prog 32 #[.agg #[.slice A0_0 l0_0.length c0_0, .slice A0_1 l0_1.length c0_1], .slice A1 n1 c1] w fun e w' => e = .returned (.int .i64 b) ∧ SV w0 pb lb bb sb vb w' s ∧ OX w0 w' (.slice A1 n1 c1) x ∧ Below w.heap.size w w' := by
  obtain ⟨rfl, h2, h3⟩ := Kd.R_reads' hX.out
  refine (ilp_bound.calls 50000 _ _ _ _ _ _ _ _ x b w (Kd.C_below hr0_0.out h.out.bel) hc0_0 (Kd.C_below hr0_1.out h.out.bel) hc0_1 h3 h2 hf.out).mono ?_
  rintro e w1 ⟨rfl, hB⟩
  exact ⟨rfl, h.out.below hB, hX.out.below hB, hB⟩
theorem more_sv (h : Hid (SV w0 pb lb bb sb vb w s)) (hX : Hid (OX w0 w (.slice A1 n1 c1) x)) (hr0_0 : Hid (Kd.C (Kd.int .i64) w0 A0_0 l0_0.length l0_0)) (hc0_0 : l0_0.length ≤ c0_0) (hr0_1 : Hid (Kd.C k43 w0 A0_1 l0_1.length l0_1)) (hc0_1 : l0_1.length ≤ c0_1) (b : Int) (hf : Hid (ilp_more.f 50000 l0_0 l0_1 x = some b)) :
    Calls Try.prog 34 #[.agg #[.slice A0_0 l0_0.length c0_0, .slice A0_1 l0_1.length c0_1], .slice A1 n1 c1] w fun e w' => e = .returned (.int .i64 b) ∧ SV w0 pb lb bb sb vb w' s ∧ OX w0 w' (.slice A1 n1 c1) x ∧ Below w.heap.size w w' := by
  obtain ⟨rfl, h2, h3⟩ := Kd.R_reads' hX.out
  refine (ilp_more.calls 50000 _ _ _ _ _ _ _ _ x b w (Kd.C_below hr0_0.out h.out.bel) hc0_0 (Kd.C_below hr0_1.out h.out.bel) hc0_1 h3 h2 hf.out).mono ?_
  rintro e w1 ⟨rfl, hB⟩
  exact ⟨rfl, h.out.below hB, hX.out.below hB, hB⟩
end
/-- What the search may write. -/
def SW (u : Value) (lb bb k : Nat) : Prop := u.ownBlock = some k ∨ k = lb ∨ k = bb
theorem OX.kept {u2 : Value} (hX : OX w0 w u x) (hS : SV w0 pb lb bb sb vb w s) (hk : Kept w w' (SW u2 lb bb)) (hne : ∀ k, u.ownBlock = some k → u2.ownBlock ≠ some k) : OX w0 w' u x :=
  Kd.R_step hX (fun k ho hlt => hk.2 k hlt (fun e => by
    rcases e with e | e | e
    · exact hne k ho e
    · exact Kd.R_ne hX hS.lst (by decide) (by rw [← e, ho])
    · obtain ⟨A, c, h1, _⟩ := hS.bst
      exact Kd.R_ne hX h1 (by decide) (by rw [← e, ho])))
/-- 'next := append([]int{}, x...)' begins with an empty row. -/
theorem R_empty (wr : World) (B : Nat) (hB : B ≤ wr.heap.size) : Kd.R (Kd.int .i64) 3 (wr.alloc (.cells #[] 3)) B (fun k => wr.heap.size ≤ k) (.slice (some ⟨wr.heap.size, 0, none⟩) 0 0) [] := by
  have h := own_made_of' (enc := Value.int .i64) (d := 0) wr B 3 0 hB (by omega)
  have h0 : madeCells #[Value.int .i64 0] 0 = #[] := by simp [madeCells]
  rw [h0] at h
  exact Kd.R_of_own h (fun k hk => by simp [Value.ownBlock] at hk; omega)
theorem OX.put {g n c : Nat} {ok : Nat → Prop} (h : Kd.R (Kd.int .i64) 3 w w0.heap.size ok (.slice (some ⟨g, 0, none⟩) n c) y) (i v : Int) : OX w0 (w.setCell ⟨g, i.toNat, none⟩ (.int .i64 v)) (.slice (some ⟨g, 0, none⟩) n c) (y.set i.toNat v) :=
  ⟨fun k hk => hk, (Kd.R_putn h i v).2⟩
theorem grown_empty {wr w2 : World} {c : Nat} (hg : (wr.alloc (.cells #[] 3)).grownBy w2 (Value.slice (some ⟨wr.heap.size, 0, none⟩) 0 c).ownBlock) : Below wr.heap.size wr w2 :=
  (below_alloc (Below.refl wr.heap.size wr) (.cells #[] 3)).grown hg (below_alloc (Below.refl wr.heap.size wr) (.cells #[] 3)).size (fun k hk => by simp [Value.ownBlock] at hk; omega)
/-- The search's call of itself. -/
theorem call_ih {A0_0 : Option Addr} {c0_0 : Nat} {l0_0 : List Int} {A0_1 : Option Addr} {c0_1 : Nat} {l0_1 : List S43} {n : Nat} {g c at_ m : Nat} {v : Int} {s' : List Bool × Int}
    (IH : ∀ (w : World) (A1 : Option Addr) (c1 : Nat) (x : List Int) (s s' : List Bool × Int), x.length ≤ 64 → srch l0_0 l0_1 n x s = some s' →
      SV w0 pb lb bb sb #[.slice A0_0 l0_0.length c0_0, .slice A0_1 l0_1.length c0_1] w s → OX w0 w (.slice A1 x.length c1) x →
      Calls Try.prog 33 #[.slice A1 x.length c1, .pointer (some ⟨pb, 0, none⟩), .pointer (some ⟨lb, 0, none⟩), .pointer (some ⟨bb, 0, none⟩), .pointer (some ⟨sb, 0, none⟩)] w fun e w' =>
        e = .returned (.tuple #[]) ∧ SV w0 pb lb bb sb #[.slice A0_0 l0_0.length c0_0, .slice A0_1 l0_1.length c0_1] w' s' ∧ Kept w w' (SW (.slice A1 x.length c1) lb bb))
    (HSR : Hid (srch l0_0 l0_1 n (y.set at_ v) s = some s')) (HS : Hid (SV w0 pb lb bb sb #[.slice A0_0 l0_0.length c0_0, .slice A0_1 l0_1.length c0_1] w s))
    (HO : Hid (OX w0 w (.slice (some ⟨g, 0, none⟩) m c) (y.set at_ v))) (HL : Hid (m = y.length)) (hm : m ≤ 64) :
    Calls Try.prog 33 #[.slice (some ⟨g, 0, none⟩) m c, .pointer (some ⟨pb, 0, none⟩), .pointer (some ⟨lb, 0, none⟩), .pointer (some ⟨bb, 0, none⟩), .pointer (some ⟨sb, 0, none⟩)] w fun e w' =>
        e = .returned (.tuple #[]) ∧ SV w0 pb lb bb sb #[.slice A0_0 l0_0.length c0_0, .slice A0_1 l0_1.length c0_1] w' s' ∧ Kept w w' (SW (.slice (some ⟨g, 0, none⟩) m c) lb bb) := by
  have hl : m = (y.set at_ v).length := by rw [List.length_set]; exact HL.out
  subst hl
  exact IH w _ c (y.set at_ v) s s' hm HSR.out HS.out HO.out
theorem own_some {g n c q : Nat} (h : (Value.slice (some ⟨g, 0, none⟩) n c).ownBlock = some q) : g = q := by simpa [Value.ownBlock] using h
theorem sv_ne (h : Hid (SV w0 pb lb bb sb vb w s)) : pb ≠ bb ∧ pb ≠ lb ∧ bb ≠ lb := by
  obtain ⟨A, c, h1, _⟩ := h.out.bst
  refine ⟨fun e => ?_, fun e => ?_, fun e => ?_⟩
  · have := h.out.box; rw [e, h1] at this; injection this with this; injection this with _ this _; cases this
  · have := h.out.box; rw [e, h.out.lst] at this; injection this with this; injection this with _ this _; cases this
  · have := h.out.lst; rw [← e, h1] at this; injection this with this; injection this with _ this _; cases this
theorem sv_store (h : Hid (SV w0 pb lb bb sb vb w s)) : (∃ v, w.cell? ⟨bb, 0, none⟩ = some v) ∧ w.frozen? ⟨bb, 0, none⟩ = false ∧ w.cell? ⟨lb, 0, none⟩ = some (.int .i64 s.2) ∧ w.frozen? ⟨lb, 0, none⟩ = false := by
  obtain ⟨A, c, h1, _⟩ := h.out.bst
  exact ⟨⟨_, (blk_cell h1 0).trans rfl⟩, blk_frozen h1 0, (blk_cell h.out.lst 0).trans rfl, blk_frozen h.out.lst 0⟩
/-- The search's memory while it writes down a solution l: its row begins in block g. -/
structure LF (w0 : World) (pb lb bb sb : Nat) (vb : Array Value) (we : World) (u : Value) (y : List Int) (b : Int) (g n : Nat) (w : World) (l : List Bool) : Prop where
  bel : Below w0.heap.size w0 w
  ge : w0.heap.size ≤ pb ∧ w0.heap.size ≤ lb ∧ w0.heap.size ≤ bb ∧ w0.heap.size ≤ sb
  box : w.heap[pb]? = some (.cells vb 25 (0, 0))
  lst : w.heap[lb]? = some (.cells #[.int .i64 b] 2 (0, 0))
  bst : w.heap[bb]? = some (.cells #[.slice (some ⟨g, 0, none⟩) n n] 34 (0, 0))
  row : Kd.R Kd.bool 4 w w0.heap.size (fun k => we.heap.size ≤ k) (.slice (some ⟨g, 0, none⟩) n n) l
  fn : w.heap[sb]? = some (.cells #[.func (.func 33) #[] #[.pointer (some ⟨pb, 0, none⟩), .pointer (some ⟨lb, 0, none⟩), .pointer (some ⟨bb, 0, none⟩), .pointer (some ⟨sb, 0, none⟩)]] 57 (0, 0))
  own : OX w0 w u y
  kept : Kept we w (SW u lb bb)
theorem ne_types {w : World} {a b t t' : Nat} {cs cs' : Array Value} (ha : w.heap[a]? = some (.cells cs t (0, 0))) (hb : w.heap[b]? = some (.cells cs' t' (0, 0))) (h : t ≠ t') : a ≠ b := by
  intro e
  subst e
  rw [ha] at hb
  injection hb with hb
  injection hb with _ hb _
  exact h hb
theorem LF.start {we : World} {g n : Nat} {l : List Bool} {b : Int} (hS : SV w0 pb lb bb sb vb w s) (hX : OX w0 w u y) (hK : Kept we w (fun k => u.ownBlock = some k))
    (hR : Kd.R Kd.bool 4 w w0.heap.size (fun k => we.heap.size ≤ k) (.slice (some ⟨g, 0, none⟩) n n) l) :
    LF w0 pb lb bb sb vb we u y b g n ((w.setCell ⟨bb, 0, none⟩ (.slice (some ⟨g, 0, none⟩) n n)).setCell ⟨lb, 0, none⟩ (.int .i64 b)) l := by
  obtain ⟨A, c, h1, _⟩ := hS.bst
  have n1 := ne_types hS.box h1 (by decide)
  have n2 := ne_types hS.box hS.lst (by decide)
  have n3 := ne_types h1 hS.lst (by decide)
  have n4 := ne_types hS.fn h1 (by decide)
  have n5 := ne_types hS.fn hS.lst (by decide)
  have hl1 := blk_far hS.lst (p := ⟨bb, 0, none⟩) (fun e => n3 e.symm) (.slice (some ⟨g, 0, none⟩) n n)
  refine ⟨below_set (below_set hS.bel hS.ge.2.2.1) hS.ge.2.1, hS.ge, blk_far (blk_far hS.box (p := ⟨bb, 0, none⟩) n1 _) (p := ⟨lb, 0, none⟩) n2 _, blk_put hl1 0 _ rfl, blk_far (blk_put h1 0 _ rfl) (p := ⟨lb, 0, none⟩) n3 _,
    Kd.R_set (Kd.R_set hR h1 (by decide) 0 _) hl1 (by decide) 0 _, blk_far (blk_far hS.fn (p := ⟨bb, 0, none⟩) n4 _) (p := ⟨lb, 0, none⟩) n5 _, Kd.R_set (Kd.R_set hX h1 (by decide) 0 _) hl1 (by decide) 0 _,
    ((hK.mono (fun k hk => .inl hk)).setCell (.inl (.inr (.inr rfl))) _).setCell (.inl (.inr (.inl rfl))) _⟩
theorem LF.put {we : World} {g n : Nat} {l : List Bool} {b : Int} (h : LF w0 pb lb bb sb vb we u y b g n w l) (i : Int) (v : Bool) :
    LF w0 pb lb bb sb vb we u y b g n (w.setCell ⟨g, i.toNat, none⟩ (.bool v)) (l.set i.toNat v) := by
  have hn : ∀ {a t : Nat} {cs : Array Value}, w.heap[a]? = some (.cells cs t (0, 0)) → 4 ≠ t → a ≠ g := fun ha ht e => Kd.R_ne h.row ha ht (by rw [e]; rfl)
  have hg : w0.heap.size ≤ g := by
    rcases Kd.R_base2 h.row with e | ⟨k, e, hk⟩
    · cases e
    · have := own_some e; omega
  exact ⟨below_set h.bel hg, h.ge, blk_far h.box (p := ⟨g, i.toNat, none⟩) (hn h.box (by decide)) _, blk_far h.lst (p := ⟨g, i.toNat, none⟩) (hn h.lst (by decide)) _, blk_far h.bst (p := ⟨g, i.toNat, none⟩) (hn h.bst (by decide)) _,
    Kd.R_putn h.row i v, blk_far h.fn (p := ⟨g, i.toNat, none⟩) (hn h.fn (by decide)) _,
    Kd.R_far h.own (p := ⟨g, i.toNat, none⟩) (fun k hk e => by
      obtain ⟨cs, hc⟩ := Kd.R_typed h.own k hk
      obtain ⟨cs', hc'⟩ := Kd.R_typed h.row g rfl
      exact ne_types hc hc' (by decide) e) _,
    h.kept.setCell (.inr (h.row.1 g rfl)) _⟩
theorem LF.done {we : World} {g n : Nat} {l : List Bool} {b : Int} (h : LF w0 pb lb bb sb vb we u y b g n w l) : SV w0 pb lb bb sb vb w (l, b) := by
  obtain ⟨rfl, _⟩ := Kd.R_reads' h.row
  exact ⟨h.bel, h.ge, h.box, h.lst, ⟨_, _, h.bst, Kd.R_mono h.row (fun _ _ => trivial)⟩, h.fn⟩
theorem new_bools (W : World) (B n : Nat) (hB : B ≤ W.heap.size) (hn : n ≤ 9223372036854775807) (ok : Nat → Prop) (hok : ok W.heap.size) :
    Kd.R Kd.bool 4 (W.alloc (.cells (madeCells #[.bool false] n) 4)) B ok (.slice (some ⟨W.heap.size, 0, none⟩) n n) (List.replicate n false) := by
  have h := own_made_of' (enc := Value.bool) (d := false) W B 4 n hB hn
  rw [show Value.slice (some ⟨W.heap.size, 0, none⟩) n n = Value.slice (some ⟨W.heap.size, 0, none⟩) n n from rfl] at h
  exact Kd.R_of_own h (fun k hk => by have := own_some hk; subst this; exact hok)
theorem take_set {l : List Bool} {n k : Nat} (hl : l.length = n) (hk : k < n) (v : Bool) (hv : l[k]? = some v) : (l.take k ++ List.replicate (n - k) false).set k v = l.take (k + 1) ++ List.replicate (n - (k + 1)) false := by
  have h1 : (l.take k).length = k := by simp; omega
  have h2 : List.replicate (n - k) false = false :: List.replicate (n - (k + 1)) false := by rw [← List.replicate_succ]; congr 1; omega
  rw [h2, List.set_append_right _ _ (by omega), h1, Nat.sub_self, List.set_cons_zero, List.take_add_one, hv]
  simp
end
end Go.Proofs.Ytiigmklolapckaa.QAll
