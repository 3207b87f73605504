/- What Roots and Members of the union-find object return. Condition: the object is a Sets with at most 1000 elements, each parent at most its element. -/
import Derived.Test.YtdjgnoofdhjicaaColl
namespace Go.Proofs.Ytdjgnoofdhjicaa.UF
open Go.RowKit Go.Proofs.YtdjgnoofdhjicaaW.PrintWords Go.Proofs.YtdjgnoofdhjicaaW.PrintLast Go.Proofs.YtdjgnoofdhjicaaW.PrintMore Go.Proofs.Ytdjgnoofdhjicaa.QAll
attribute [local go_sem] max2_int min2_int max_two min_two max_three min_three max_four min_four
set_option linter.unusedVariables false

/-- What Members returns. -/
def mem (p : List Int) (x : Int) : List Int := if inB p x = true then pick (fun y => fnd p y == fnd p x) p.length else []
set_option maxHeartbeats 800000 in
theorem roots_calls {B : Nat} {w : World} {g : Nat} {p : List Int} {t : List S53} (hU : UF B w g p t) (hl : p.length ≤ 1000) :
    Calls Try.prog 19 #[.pointer (some ⟨g, 0, none⟩)] w fun e w' => ∃ v, e = .returned v ∧ Kd.R (Kd.int .i64) 3 w' w.heap.size (fun _ => True) v (pick (fun x => rd p x == x) p.length) ∧ Below w.heap.size w w' := by
  have hb := below_alloc (Below.refl w.heap.size w) (.cells #[.pointer (some ⟨g, 0, none⟩)] 23)
  have hc := collect29 (hU.below hb) hl w.heap.size ((World.cell?_alloc_at _ _ _ _ rfl).trans rfl)
  have hmf : ∀ (fn : Fn) (first cap : Array Value) (w : World), (Instr.makeFunc fn first cap).run Try.prog w = .ok (.func fn first cap) w := fun _ _ _ _ => rfl
  have HB := Lib.hid hb
  clear hU hb
  go_enter Try.func19, Try.ntmps19
  go_wp2_with (go_at_call 28; refine hc.mono ?_; rintro e w' ⟨v, rfl, hR, hB⟩; have HR := Lib.hid hR; have HB2 := Lib.hid hB; obtain ⟨A, c, hv⟩ := Kd.R_slice hR; subst hv; clear hR hB)
  go_ret
  exact ⟨_, rfl, Kd.R_lower HR.out (by simp), below_step HB.out HB2.out⟩
set_option maxHeartbeats 800000 in
theorem members_calls {B : Nat} {w : World} {g : Nat} {p : List Int} {t : List S53} (hU : UF B w g p t) (hl : p.length ≤ 1000) (hW : Well p) (x : Int) :
    Calls Try.prog 20 #[.pointer (some ⟨g, 0, none⟩), .int .i64 x] w fun e w' => ∃ v, e = .returned v ∧ Kd.R (Kd.int .i64) 3 w' w.heap.size (fun _ => True) v (mem p x) ∧ Below w.heap.size w w' := by
  have hb1 := below_alloc (Below.refl w.heap.size w) (.cells #[.pointer (some ⟨g, 0, none⟩)] 23)
  have hf := find_calls (hU.below hb1) hl hW x
  have hmf : ∀ (fn : Fn) (first cap : Array Value) (w : World), (Instr.makeFunc fn first cap).run Try.prog w = .ok (.func fn first cap) w := fun _ _ _ _ => rfl
  cases hin : inB p x
  · have hm : mem p x = [] := by unfold mem; rw [hin]; rfl
    rw [hm]
    rw [fnd_out hin] at hf
    have HB := Lib.hid hb1
    clear hU hb1 hin hm hW
    go_enter Try.func20, Try.ntmps20
    go_wp2_with (go_at_call 13; refine hf.mono ?_; rintro e w' ⟨rfl, rfl⟩)
    go_ret
    exact ⟨_, rfl, Kd.R_nil _ _ _ _ _, HB.out.alloc (by simp) _⟩
  · have hm : mem p x = pick (fun y => fnd p y == fnd p x) p.length := by unfold mem; rw [hin]; rfl
    rw [hm]
    have hr := fnd_in hW hin
    have hb2 : Below w.heap.size w ((w.alloc (.cells #[.pointer (some ⟨g, 0, none⟩)] 23)).alloc (.cells #[.int .i64 (fnd p x)] 3)) := hb1.alloc (by simp) _
    have hc := collect30 (hU.below hb2) hl hW w.heap.size (w.heap.size + 1) (fnd p x) ((World.cell?_alloc_at _ _ _ _ (by simp)).trans rfl) ((World.cell?_alloc_past _ _ _ (by simp)).trans ((World.cell?_alloc_at _ _ _ _ rfl).trans rfl))
    have HB := Lib.hid hb2
    have hr0 := hr.1
    clear hU hb1 hb2 hin hm hW hr
    generalize fnd p x = r at *
    go_enter Try.func20, Try.ntmps20
    go_wp2_with (first | (go_at_call 13; refine hf.mono ?_; rintro e w' ⟨rfl, rfl⟩) | (go_at_call 28; refine hc.mono ?_; rintro e w' ⟨v, rfl, hR, hB⟩; have HR := Lib.hid hR; have HB2 := Lib.hid hB; obtain ⟨A, c, hv⟩ := Kd.R_slice hR; subst hv; clear hR hB))
    go_ret
    exact ⟨_, rfl, Kd.R_lower HR.out (by simp; omega), below_step HB.out HB2.out⟩
end Go.Proofs.Ytdjgnoofdhjicaa.UF
