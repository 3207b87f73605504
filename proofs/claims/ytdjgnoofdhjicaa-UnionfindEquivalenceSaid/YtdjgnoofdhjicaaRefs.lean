/- The state of a run: the object and the list of operations beside it, and what the reference's functions return on it. Condition of each contract: the operations are well formed, at most 150 of them. -/
import Derived.Test.YtdjgnoofdhjicaaSpec
namespace Go.Proofs.Ytdjgnoofdhjicaa.UF
open Go.RowKit Go.Proofs.YtdjgnoofdhjicaaW.PrintWords Go.Proofs.YtdjgnoofdhjicaaW.PrintLast Go.Proofs.YtdjgnoofdhjicaaW.PrintMore Go.Proofs.Ytdjgnoofdhjicaa.QAll
attribute [local go_sem] max2_int min2_int max_two min_two max_three min_three max_four min_four
set_option linter.unusedVariables false

theorem R_other {α : Type} {d : Kd α} {e B : Nat} {ok : Nat → Prop} {w w' : World} {v : Value} {xs : List α} (h : d.R e w B ok v xs) (ho : Other w w') (ht : ∀ q, q ∈ e :: d.E → q ≠ 3 ∧ q ≠ 53 ∧ q ≠ 47) : d.R e w' B ok v xs := by
  refine Kd.R_mono (Kd.R_move (Kd.R_bound h) (fun k hk => ?_)) (fun _ hk => hk.1)
  obtain ⟨_, _, hlt, q, hq, cells, hc⟩ := hk
  refine ho.2 k hlt (fun cs e' fr hb => ?_)
  rw [hc] at hb
  injection hb with hb
  injection hb with _ hb _
  subst hb
  exact ht q hq

/-- The run so far: the object is what follows from l, and v is the slice that holds l. -/
structure St (w0 w : World) (g : Nat) (l : List S56) (v : Value) : Prop where
  bel : Below w0.heap.size w0 w
  uf : UF w0.heap.size w g (par l) (trl l)
  own : Kd.R k56 56 w w0.heap.size (fun _ => True) v l
  ok : Ok l
section
variable {w0 w w' : World} {g : Nat} {l : List S56} {v : Value}
theorem St.below (h : St w0 w g l v) (hb : Below w.heap.size w w') : St w0 w' g l v := ⟨below_step h.bel hb, h.uf.below hb, Kd.R_below h.own hb, h.ok⟩
theorem St.read (h : St w0 w g l v) : ∃ A c, v = .slice A l.length c ∧ l.length ≤ c ∧ Kd.C k56 w A l.length l := by
  obtain ⟨A, c, rfl⟩ := Kd.R_slice h.own
  have := Kd.R_reads' h.own
  exact ⟨A, c, rfl, this.2.1, this.2.2⟩
theorem St.inv (h : St w0 w g l v) : Inv (lab l) (par l) := stt_inv h.ok
theorem St.well (h : St w0 w g l v) : Well (par l) := h.inv.well
theorem St.plen (h : St w0 w g l v) (hl : l.length ≤ 150) : (par l).length ≤ 1000 := by have := h.inv.len; have := lab_length_le l; omega
theorem St.tlen (hl : l.length ≤ 150) : (trl l).length ≤ 1000 := by have := trl_length l; omega

theorem labels_calls {A : Option Addr} {c : Nat} (h : Ok l) (hl : l.length ≤ 150) (hc : l.length ≤ c) (hr : Kd.C k56 w A l.length l) :
    Calls Try.prog 24 #[.slice A l.length c] w fun e w' => ∃ v0 : Value, e = .returned v0 ∧ Kd.R (Kd.int .i64) 3 w' w.heap.size (fun _ => True) v0 (lab l) ∧ Below w.heap.size w w' :=
  saturateref15_Labels.calls 50000 A c l (lab l) w hr hc (Labels_eq 50000 l h (by omega) (Nat.le_refl _))
theorem rfind_calls {A : Option Addr} {c : Nat} (h : Ok l) (hl : l.length ≤ 150) (hc : l.length ≤ c) (hr : Kd.C k56 w A l.length l) (x : Int) :
    Calls Try.prog 32 #[.slice A l.length c, .int .i64 x] w fun e w' => e = .returned (.int .i64 (rfnd (lab l) x)) ∧ Below w.heap.size w w' :=
  saturateref15_Find.calls 50000 A c l x _ w hr hc (Find_eq 50000 l h (by omega) (Nat.le_refl _) x)
/-- What the reference's Members returns. -/
def rmem (L : List Int) (x : Int) : List Int := if 0 ≤ rfnd L x then pick (fun y => rd L y == rfnd L x) L.length else []
theorem rmem_length (L : List Int) (x : Int) : (rmem L x).length ≤ L.length := by
  unfold rmem
  split
  · exact pick_length _ _
  · simp
theorem rmembers_calls {A : Option Addr} {c : Nat} (h : Ok l) (hl : l.length ≤ 150) (hc : l.length ≤ c) (hr : Kd.C k56 w A l.length l) (x : Int) :
    Calls Try.prog 27 #[.slice A l.length c, .int .i64 x] w fun e w' => ∃ v0 : Value, e = .returned v0 ∧ Kd.R (Kd.int .i64) 3 w' w.heap.size (fun _ => True) v0 (rmem (lab l) x) ∧ Below w.heap.size w w' :=
  saturateref15_Members.calls 50000 A c l x _ w hr hc (Members_eq 50000 l h (by omega) (Nat.le_refl _) x)
theorem rroots_calls {A : Option Addr} {c : Nat} (h : Ok l) (hl : l.length ≤ 150) (hc : l.length ≤ c) (hr : Kd.C k56 w A l.length l) :
    Calls Try.prog 26 #[.slice A l.length c] w fun e w' => ∃ v0 : Value, e = .returned v0 ∧ Kd.R (Kd.int .i64) 3 w' w.heap.size (fun _ => True) v0 (pick (fun y => rd (lab l) y == y) (lab l).length) ∧ Below w.heap.size w w' :=
  saturateref15_Roots.calls 50000 A c l _ w hr hc (Roots_eq 50000 l h (by omega) (Nat.le_refl _))
theorem rsame_calls {A A' : Option Addr} {c c' : Nat} {L : List Int} (hl : L.length ≤ 900) (hr : Kd.C (Kd.int .i64) w A L.length L) (hc : L.length ≤ c) (hr' : Kd.C (Kd.int .i64) w A' L.length L) (hc' : L.length ≤ c') :
    Calls Try.prog 25 #[.slice A L.length c, .slice A' L.length c'] w fun e w' => e = .returned (.bool true) ∧ Drawn0 w w' :=
  saturateref15_Same.calls 1000 A c L A' c' L true w hr hc hr' hc' (Same_eq 1000 L hl (Nat.le_refl _))
/-- What the reference's Union returns. -/
theorem Union_eq (h : Ok l) (hl : l.length ≤ 150) (a b : Int) : saturateref15_Union.f 50001 l a b = some (
    if 0 ≤ rfnd (lab l) a ∧ 0 ≤ rfnd (lab l) b ∧ rfnd (lab l) a ≠ rfnd (lab l) b then (l ++ [⟨false, a, b⟩], mn (rfnd (lab l) a) (rfnd (lab l) b), true)
    else if 0 ≤ rfnd (lab l) a ∧ 0 ≤ rfnd (lab l) b then (l, rfnd (lab l) a, false) else (l, -1, false)) := by
  unfold saturateref15_Union.f
  rw [Find_eq 50001 l h (by omega) (by omega) a, Find_eq 50001 l h (by omega) (by omega) b]
  simp only [Option.bind_some]
  generalize rfnd (lab l) a = x
  generalize rfnd (lab l) b = y
  by_cases hx : x < 0
  · rw [if_pos hx, if_neg (by omega), if_neg (by omega)]; rfl
  · rw [if_neg hx]
    by_cases hy : y < 0
    · rw [if_neg (by omega), if_neg (by omega)]; simp only [saturateref15_Union.j0]; rw [if_pos (by simpa using hy)]
    · simp only [saturateref15_Union.j0]
      rw [if_neg (by simpa using hy)]
      by_cases e : x = y
      · rw [if_pos e, if_neg (by omega), if_pos (by omega)]
      · rw [if_neg e, if_pos (by simp; omega), if_pos (by omega)]
        simp only [List.nil_append, Option.bind_some]
        rw [if_pos (by omega)]
end
end Go.Proofs.Ytdjgnoofdhjicaa.UF
