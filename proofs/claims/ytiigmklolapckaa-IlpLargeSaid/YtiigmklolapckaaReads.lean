/- How an argument of a law is read, for every type of this seat: what is read at type T is of a kind d (one of the print's kinds). No condition. -/
import Derived.Test.YtiigmklolapckaaWWords
import Derived.ProofKit
import Derived.Deep.Slices
import Derived.ChangeArms
import Derived.Carry
namespace Go.Proofs.Ytiigmklolapckaa.Reads
open Go.ChangeShapes Go.WideShapes Go.ChangeAt Go.RowKit Go.Deep Go.Proofs.YtiigmklolapckaaW.PrintWords
set_option linter.unusedVariables false

section
variable {H : Type} {enc : TypeId × Value → H} {P : Program} {W : World} {base : Nat} {spare : Nat → Bool} {held : Bool}

/-- Whatever is read at type T is of kind d, and 'ok'. -/
def Rd {H : Type} (enc : TypeId × Value → H) (P : Program) (W : World) (base : Nat) (spare : Nat → Bool) (held : Bool) {α : Type} (T : TypeId) (d : Kd α) (ok : α → Prop) : Prop :=
  ∀ fuel cs x, DataW.trod enc P W base spare held fuel T cs = some x → ∃ a, d.K W a cs ∧ ok a

theorem rd_int {T : TypeId} {k : IntKind} (ht : P.underlying T = some (.int k)) : Rd enc P W base spare held T (Kd.int k) (fun n => (Lit.int k n).wf = true) := by
  intro fuel cs x h
  obtain ⟨n, rfl, _, hw⟩ := DataW.trod_int ht h
  exact ⟨n, rfl, hw⟩
theorem rd_bool {T : TypeId} (ht : P.underlying T = some .bool) : Rd enc P W base spare held T Kd.bool (fun _ => True) := by
  intro fuel cs x h
  obtain ⟨b, rfl, _⟩ := DataW.trod_bool ht h
  exact ⟨b, rfl, trivial⟩
theorem rd_string {T : TypeId} (ht : P.underlying T = some .string) : Rd enc P W base spare held T Kd.string (fun s => s.size ≤ maxLen) := by
  intro fuel cs x h
  obtain ⟨s, rfl, _, hs⟩ := DataW.trod_string ht h
  exact ⟨s, rfl, hs⟩

theorem choose_list {α : Type} {p : Nat → α → Prop} : ∀ n : Nat, (∀ i, i < n → ∃ a, p i a) → ∃ l : List α, l.length = n ∧ ∀ i a, l[i]? = some a → p i a := by
  intro n
  induction n with
  | zero => intro _; exact ⟨[], rfl, by simp⟩
  | succ n ih =>
    intro h
    obtain ⟨l, hl, hp⟩ := ih (fun i hi => h i (by omega))
    obtain ⟨a, ha⟩ := h n (by omega)
    refine ⟨l ++ [a], by simp [hl], fun i b hb => ?_⟩
    by_cases hi : i < n
    · rw [List.getElem?_append_left (by omega)] at hb; exact hp i b hb
    · rw [List.getElem?_append_right (by omega)] at hb
      have : i - l.length = 0 := by
        by_cases e : i - l.length = 0
        · exact e
        · rw [List.getElem?_eq_none (by simp; omega)] at hb; cases hb
      rw [this] at hb
      simp at hb
      have e : i = n := by omega
      rw [e, ← hb]; exact ha

theorem rd_slice {α : Type} {T e : TypeId} {d : Kd α} {ok : α → Prop} (ht : P.underlying T = some (.slice e)) (hs : P.cellsOf e = d.sz) (hd : Rd enc P W base spare held e d ok) :
    Rd enc P W base spare held T (Kd.slice e d) (fun l => l.length ≤ maxLen ∧ ∀ x ∈ l, ok x) := by
  intro fuel cs x h
  rcases open_slice ht h with ⟨rfl, _⟩ | ⟨a, len, cap, m, n, D, Pl, rfl, hb, hl, hm, hmm, _, hx⟩
  · exact ⟨[], ⟨none, 0, rfl, Nat.le_refl _, rfl, by simp, fun h => absurd h (by simp)⟩, by simp, by simp⟩
  · have hlm : len ≤ m := by rw [hmm]; split <;> omega
    obtain ⟨l, hll, hp⟩ := choose_list (p := fun i y => ∃ cs', W.cells? base (a.add (i * P.cellsOf e)) (P.cellsOf e) = some cs' ∧ d.K W y cs' ∧ ok y) len (fun i hi => by
      obtain ⟨cs', h1, h2⟩ := hx i (by omega)
      obtain ⟨y, h3, h4⟩ := hd _ _ _ h2
      exact ⟨y, cs', h1, h3, h4⟩)
    refine ⟨l, ⟨some a, cap, by rw [hll], by omega, ?_, ?_, fun _ => ⟨a, rfl, fun j y hj => ?_⟩⟩, by omega, fun y hy => ?_⟩
    · rfl
    · simp only [maxLen] at hm; omega
    · obtain ⟨cs', h1, h2, _⟩ := hp j y hj
      refine ⟨cs', d.K_len h2, h2, fun i u hi => ?_⟩
      obtain ⟨_, hlen, hc⟩ := World.cells?_some h1
      have hi' : i < cs'.length := by
        by_cases e : i < cs'.length
        · exact e
        · rw [List.getElem?_eq_none (by omega)] at hi; cases hi
      have h5 := hc i (by omega)
      rw [Addr.add_add] at h5
      rw [← hs]
      rw [h5, hi]
    · obtain ⟨i, hi⟩ := List.mem_iff_getElem?.1 hy
      obtain ⟨_, _, _, h3⟩ := hp i y hi
      exact h3

theorem rd_struct2 {α β σ : Type} {T : TypeId} {f0 f1 : Field} {d0 : Kd α} {d1 : Kd β} {ok0 : α → Prop} {ok1 : β → Prop} {ok : σ → Prop} {f : σ → α × β} (g : α → β → σ)
    (ht : P.underlying T = some (.struct #[f0, f1])) (o0 : f0.offset = 0) (o1 : f1.offset = d0.sz) (s0 : P.cellsOf f0.type = d0.sz) (s1 : P.cellsOf f1.type = d1.sz) (hC : P.cellsOf T = d0.sz + d1.sz)
    (h0 : Rd enc P W base spare held f0.type d0 ok0) (h1 : Rd enc P W base spare held f1.type d1 ok1) (hg : ∀ a b, f (g a b) = (a, b)) (hok : ∀ a b, ok0 a → ok1 b → ok (g a b)) :
    Rd enc P W base spare held T (Kd.iso (Kd.pair d0 d1) f) ok := by
  intro fuel cs x h
  obtain ⟨xs, n, _, _, hl, hlen, hf⟩ := DataW.trod_struct ht h
  have e0 := hf 0 f0 rfl
  have e1 := hf 1 f1 rfl
  have hlen' : xs.length = 2 := hlen
  rw [List.getElem?_eq_getElem (show 0 < xs.length by omega)] at e0
  rw [List.getElem?_eq_getElem (show 1 < xs.length by omega)] at e1
  obtain ⟨a, ka, oa⟩ := h0 _ _ _ e0
  obtain ⟨b, kb, ob⟩ := h1 _ _ _ e1
  refine ⟨g a b, ?_, hok a b oa ob⟩
  show ∃ c0 c1, cs = c0 ++ c1 ∧ d0.K W (f (g a b)).1 c0 ∧ d1.K W (f (g a b)).2 c1
  rw [hg]
  refine ⟨_, _, ?_, ka, kb⟩
  rw [o0, s0, o1, s1, List.drop_zero]
  rw [List.take_of_length_le (i := d1.sz) (by rw [List.length_drop]; omega)]
  exact (List.take_append_drop _ _).symm

theorem rd_struct3 {α β γ σ : Type} {T : TypeId} {f0 f1 f2 : Field} {d0 : Kd α} {d1 : Kd β} {d2 : Kd γ} {ok0 : α → Prop} {ok1 : β → Prop} {ok2 : γ → Prop} {ok : σ → Prop} {f : σ → α × β × γ} (g : α → β → γ → σ)
    (ht : P.underlying T = some (.struct #[f0, f1, f2])) (o0 : f0.offset = 0) (o1 : f1.offset = d0.sz) (o2 : f2.offset = d0.sz + d1.sz) (s0 : P.cellsOf f0.type = d0.sz) (s1 : P.cellsOf f1.type = d1.sz) (s2 : P.cellsOf f2.type = d2.sz) (hC : P.cellsOf T = d0.sz + d1.sz + d2.sz)
    (h0 : Rd enc P W base spare held f0.type d0 ok0) (h1 : Rd enc P W base spare held f1.type d1 ok1) (h2 : Rd enc P W base spare held f2.type d2 ok2) (hg : ∀ a b c, f (g a b c) = (a, b, c)) (hok : ∀ a b c, ok0 a → ok1 b → ok2 c → ok (g a b c)) :
    Rd enc P W base spare held T (Kd.iso (Kd.pair d0 (Kd.pair d1 d2)) f) ok := by
  intro fuel cs x h
  obtain ⟨xs, n, _, _, hl, hlen, hf⟩ := DataW.trod_struct ht h
  have e0 := hf 0 f0 rfl
  have e1 := hf 1 f1 rfl
  have e2 := hf 2 f2 rfl
  have hlen' : xs.length = 3 := hlen
  rw [List.getElem?_eq_getElem (show 0 < xs.length by omega)] at e0
  rw [List.getElem?_eq_getElem (show 1 < xs.length by omega)] at e1
  rw [List.getElem?_eq_getElem (show 2 < xs.length by omega)] at e2
  obtain ⟨a, ka, oa⟩ := h0 _ _ _ e0
  obtain ⟨b, kb, ob⟩ := h1 _ _ _ e1
  obtain ⟨c, kc, oc⟩ := h2 _ _ _ e2
  refine ⟨g a b c, ?_, hok a b c oa ob oc⟩
  show ∃ c0 c1, cs = c0 ++ c1 ∧ d0.K W (f (g a b c)).1 c0 ∧ ∃ c2 c3, c1 = c2 ++ c3 ∧ d1.K W (f (g a b c)).2.1 c2 ∧ d2.K W (f (g a b c)).2.2 c3
  rw [hg]
  refine ⟨_, _, ?_, ka, _, _, rfl, kb, kc⟩
  rw [o0, s0, o1, s1, o2, s2, List.drop_zero]
  rw [List.take_of_length_le (i := d2.sz) (by rw [List.length_drop]; omega), ← List.drop_drop, List.take_append_drop, List.take_append_drop]

theorem rd_struct4 {α β γ δ σ : Type} {T : TypeId} {f0 f1 f2 f3 : Field} {d0 : Kd α} {d1 : Kd β} {d2 : Kd γ} {d3 : Kd δ} {ok0 : α → Prop} {ok1 : β → Prop} {ok2 : γ → Prop} {ok3 : δ → Prop} {ok : σ → Prop} {f : σ → α × β × γ × δ} (g : α → β → γ → δ → σ)
    (ht : P.underlying T = some (.struct #[f0, f1, f2, f3])) (o0 : f0.offset = 0) (o1 : f1.offset = d0.sz) (o2 : f2.offset = d0.sz + d1.sz) (o3 : f3.offset = d0.sz + d1.sz + d2.sz)
    (s0 : P.cellsOf f0.type = d0.sz) (s1 : P.cellsOf f1.type = d1.sz) (s2 : P.cellsOf f2.type = d2.sz) (s3 : P.cellsOf f3.type = d3.sz) (hC : P.cellsOf T = d0.sz + d1.sz + d2.sz + d3.sz)
    (h0 : Rd enc P W base spare held f0.type d0 ok0) (h1 : Rd enc P W base spare held f1.type d1 ok1) (h2 : Rd enc P W base spare held f2.type d2 ok2) (h3 : Rd enc P W base spare held f3.type d3 ok3)
    (hg : ∀ a b c e, f (g a b c e) = (a, b, c, e)) (hok : ∀ a b c e, ok0 a → ok1 b → ok2 c → ok3 e → ok (g a b c e)) :
    Rd enc P W base spare held T (Kd.iso (Kd.pair d0 (Kd.pair d1 (Kd.pair d2 d3))) f) ok := by
  intro fuel cs x h
  obtain ⟨xs, n, _, _, hl, hlen, hf⟩ := DataW.trod_struct ht h
  have e0 := hf 0 f0 rfl
  have e1 := hf 1 f1 rfl
  have e2 := hf 2 f2 rfl
  have e3 := hf 3 f3 rfl
  have hlen' : xs.length = 4 := hlen
  rw [List.getElem?_eq_getElem (show 0 < xs.length by omega)] at e0
  rw [List.getElem?_eq_getElem (show 1 < xs.length by omega)] at e1
  rw [List.getElem?_eq_getElem (show 2 < xs.length by omega)] at e2
  rw [List.getElem?_eq_getElem (show 3 < xs.length by omega)] at e3
  obtain ⟨a, ka, oa⟩ := h0 _ _ _ e0
  obtain ⟨b, kb, ob⟩ := h1 _ _ _ e1
  obtain ⟨c, kc, oc⟩ := h2 _ _ _ e2
  obtain ⟨q, kq, oq⟩ := h3 _ _ _ e3
  refine ⟨g a b c q, ?_, hok a b c q oa ob oc oq⟩
  show ∃ c0 c1, cs = c0 ++ c1 ∧ d0.K W (f (g a b c q)).1 c0 ∧ ∃ c2 c3, c1 = c2 ++ c3 ∧ d1.K W (f (g a b c q)).2.1 c2 ∧ ∃ c4 c5, c3 = c4 ++ c5 ∧ d2.K W (f (g a b c q)).2.2.1 c4 ∧ d3.K W (f (g a b c q)).2.2.2 c5
  rw [hg]
  refine ⟨_, _, ?_, ka, _, _, rfl, kb, _, _, rfl, kc, kq⟩
  rw [o0, s0, o1, s1, o2, s2, o3, s3, List.drop_zero]
  rw [List.take_of_length_le (i := d3.sz) (by rw [List.length_drop]; omega), ← List.drop_drop (i := d2.sz) (j := d0.sz + d1.sz), List.take_append_drop, ← List.drop_drop (i := d1.sz) (j := d0.sz), List.take_append_drop, List.take_append_drop]

/-- An argument that is a slice. -/
theorem arg_slice {α : Type} {T e : TypeId} {d : Kd α} {ok : List α → Prop} {v : Value} {y : DataW H} {ps : List MemPlace} {r : Reach} {b0 : Nat} (ht : P.underlying T = some (.slice e)) (hv : Value.okWide P W r b0 T v)
    (hd : Rd enc P W base spare held T (Kd.slice e d) ok) (h : DataW.Trod enc P W base spare held T v y ps) :
    ∃ A c l, v = .slice A l.length c ∧ l.length ≤ c ∧ Kd.C d W A l.length l ∧ ok l := by
  obtain ⟨a, len, cap, rfl⟩ := okWide_slice ht hv
  obtain ⟨fuel, hf⟩ := h
  obtain ⟨l, ⟨A, c, hcs, hl, hC⟩, hok⟩ := hd _ _ _ hf
  simp [Value.cells] at hcs
  obtain ⟨rfl, rfl, rfl⟩ := hcs
  exact ⟨_, _, l, rfl, hl, hC, hok⟩
/-- An argument that is a struct. -/
theorem arg_struct {α : Type} {T : TypeId} {fs : Array Field} {d : Kd α} {ok : α → Prop} {v : Value} {y : DataW H} {ps : List MemPlace} {r : Reach} {b0 : Nat} (ht : P.underlying T = some (.struct fs)) (hv : Value.okWide P W r b0 T v)
    (hd : Rd enc P W base spare held T d ok) (h : DataW.Trod enc P W base spare held T v y ps) :
    ∃ x cs, v = .agg cs ∧ d.K W x cs.toList ∧ ok x := by
  obtain ⟨cs, rfl, _⟩ := okWide_struct ht hv
  obtain ⟨fuel, hf⟩ := h
  obtain ⟨x, hK, hok⟩ := hd _ _ _ hf
  exact ⟨x, cs, rfl, hK, hok⟩
end
end Go.Proofs.Ytiigmklolapckaa.Reads
