/- What Undo of the union-find object does. Condition: the object is a Sets with at most 1000 elements and steps, and the steps that are undone are in range. -/
import Derived.Test.YtdjgnoofdhjicaaUnion
import Derived.RegionTactic
import Derived.Deep.LoopGhost
import Derived.ChangeAlike
namespace Go.Proofs.Ytdjgnoofdhjicaa.UF
open Go.RowKit Go.Proofs.YtdjgnoofdhjicaaW.PrintWords Go.Proofs.YtdjgnoofdhjicaaW.PrintLast Go.Proofs.YtdjgnoofdhjicaaW.PrintMore Go.Proofs.Ytdjgnoofdhjicaa.QAll
attribute [local go_sem] max2_int min2_int max_two min_two max_three min_three max_four min_four
set_option linter.unusedVariables false

/-- The parents behind one step undone. -/
def pop1 (p : List Int) (s : S53) : List Int := if s.f0 = true then p.take s.f1.toNat else p.set s.f1.toNat s.f1
/-- The object, a last step s behind the steps t. -/
def und (p : List Int) : List S53 → Nat → List Int
  | _, 0 => p
  | [], _ + 1 => p
  | t, n + 1 => und (pop1 p (t.getLastD z53)) t.dropLast n
def Safe (p : List Int) : List S53 → Nat → Prop
  | _, 0 => True
  | t, n + 1 => t ≠ [] ∧ 0 ≤ (t.getLastD z53).f1 ∧ (t.getLastD z53).f1 < p.length ∧ Safe (pop1 p (t.getLastD z53)) t.dropLast n

theorem UF.drew {B : Nat} {w : World} {g : Nat} {p : List Int} {t : List S53} (h : UF B w g p t) : UF B w.drew g p t := h
theorem Other.drew {w w' : World} (h : Other w w') : Other w w'.drew := h
theorem UF.cut_t {B : Nat} {w : World} {g : Nat} {p : List Int} {t : List S53} (h : UF B w g p t) {A : Option Addr} {n c k : Nat} (hc : w.cell? ⟨g, 2, none⟩ = some (.slice A n c)) (hk : k ≤ t.length) :
    UF B (w.setCell ⟨g, 2, none⟩ (.slice A k c)) g p (t.take k) ∧ Other w (w.setCell ⟨g, 2, none⟩ (.slice A k c)) := by
  obtain ⟨hB, vp, vt, hbk, hp, ht⟩ := h
  obtain rfl : vt = .slice A n c := Option.some.inj (((blk_cell hbk 2).symm.trans hc))
  exact ⟨⟨hB, _, _, blk_put hbk 2 (.slice A k c) (cs' := #[.bool true, vp, .slice A k c]) rfl, Kd.R_set hp hbk (by decide) 2 _, Kd.R_set (Kd.R_take ht hk) hbk (by decide) 2 _⟩, Other.set ⟨_, _, _, hbk, .inr (.inr rfl)⟩⟩
theorem UF.cut_p {B : Nat} {w : World} {g : Nat} {p : List Int} {t : List S53} (h : UF B w g p t) {A : Option Addr} {n c k : Nat} (hc : w.cell? ⟨g, 1, none⟩ = some (.slice A n c)) (hk : k ≤ p.length) :
    UF B (w.setCell ⟨g, 1, none⟩ (.slice A k c)) g (p.take k) t ∧ Other w (w.setCell ⟨g, 1, none⟩ (.slice A k c)) := by
  obtain ⟨hB, vp, vt, hbk, hp, ht⟩ := h
  obtain rfl : vp = .slice A n c := Option.some.inj (((blk_cell hbk 1).symm.trans hc))
  exact ⟨⟨hB, _, _, blk_put hbk 1 (.slice A k c) (cs' := #[.bool true, .slice A k c, vt]) rfl, Kd.R_set (Kd.R_take hp hk) hbk (by decide) 1 _, Kd.R_set ht hbk (by decide) 1 _⟩, Other.set ⟨_, _, _, hbk, .inr (.inr rfl)⟩⟩
theorem UF.put_p {B : Nat} {w : World} {g : Nat} {p : List Int} {t : List S53} (h : UF B w g p t) {b n c : Nat} (hc : w.cell? ⟨g, 1, none⟩ = some (.slice (some ⟨b, 0, none⟩) n c)) (i x : Int) :
    UF B (w.setCell ⟨b, i.toNat, none⟩ (.int .i64 x)) g (p.set i.toNat x) t ∧ Other w (w.setCell ⟨b, i.toNat, none⟩ (.int .i64 x)) := by
  obtain ⟨hB, vp, vt, hbk, hp, ht⟩ := h
  obtain rfl : vp = .slice (some ⟨b, 0, none⟩) n c := Option.some.inj (((blk_cell hbk 1).symm.trans hc))
  have hneb : some g ≠ (Value.slice (some ⟨b, 0, none⟩) n c).ownBlock := Kd.R_ne hp hbk (by decide)
  have hgp : g ≠ b := fun e => hneb (by rw [e]; rfl)
  obtain ⟨hpp, hpg⟩ := Kd.R_putg hp i x
  exact ⟨⟨hB, _, _, blk_far hbk (p := ⟨b, i.toNat, none⟩) hgp _, hpp, Kd.R_over' (v := .slice (some ⟨b, 0, none⟩) n c) ht (Kd.R_typed hp) (by decide) hpg⟩, Other.set (by obtain ⟨cs, h⟩ := Kd.R_typed hp b rfl; exact ⟨cs, 3, _, h, .inl rfl⟩)⟩

theorem und_snoc (p : List Int) (ts : List S53) (s : S53) (k : Nat) : und p (ts ++ [s]) (k + 1) = und (pop1 p s) ts k := by
  obtain ⟨x, xs, h⟩ : ∃ x xs, ts ++ [s] = x :: xs := by
    cases ts with
    | nil => exact ⟨s, [], rfl⟩
    | cons a b => exact ⟨a, b ++ [s], rfl⟩
  have e1 : (ts ++ [s]).getLastD z53 = s := by simp [List.getLastD_eq_getLast?]
  have e2 : (ts ++ [s]).dropLast = ts := by simp
  rw [h] at e1 e2 ⊢
  simp only [und]
  rw [e1, e2]
theorem pop1_length (p : List Int) (s : S53) : (pop1 p s).length ≤ p.length := by
  unfold pop1
  split
  · rw [List.length_take]; omega
  · simp

set_option maxHeartbeats 1600000 in
theorem undo_yes {B : Nat} {w0 w : World} {g : Nat} {p : List Int} {t : List S53} (hU : UF B w g p t) (hB0 : Below B w0 w) (hl : p.length ≤ 1000) (hlt : t.length ≤ 1000) (m : Int) (n : Nat) (h0 : 0 ≤ m) (hn : m + n = t.length) (hS : Safe p t n) :
    Calls Try.prog 18 #[.pointer (some ⟨g, 0, none⟩), .int .i64 m] w fun e w' => e = .returned (.bool true) ∧ UF B w' g (und p t n) (t.take m.toNat) ∧ Below B w0 w' ∧ Other w w' := by
  have hv := valid_calls hU
  have h2 : ∃ A2 c2, w.cell? ⟨g, 2, none⟩ = some (.slice A2 t.length c2) := by
    obtain ⟨hB, vp, vt, hbk, hp, ht⟩ := hU
    obtain ⟨A2, c2, rfl⟩ := Kd.R_slice ht
    exact ⟨A2, c2, (blk_cell hbk 2).trans rfl⟩
  obtain ⟨A2, c2, h2⟩ := h2
  have HU := Lib.hid hU
  have HB0 := Lib.hid hB0
  have HS := Lib.hid hS
  have HN := Lib.hid hn
  have hm1 : ¬ m < 0 := by omega
  have hm2 : ¬ (t.length : Int) < m := by omega
  clear hU hB0 hS hn
  have hu53 := Try.underlying53
  go_enter Try.func18, Try.ntmps18
  go_wp2_with (go_at_call 22; refine hv.mono ?_; rintro e w' ⟨rfl, rfl⟩)
  go_loopg [] n (fun kq w' => ∃ (p1 : List Int) (t1 : List S53), Hid (UF B w' g p1 t1) ∧ Hid (Below B w0 w') ∧ Hid (Other w w') ∧ Hid (m + kq = t1.length) ∧ Hid (Safe p1 t1 kq) ∧ Hid (und p t n = und p1 t1 kq) ∧ Hid (t1.take m.toNat = t.take m.toNat) ∧ Hid (t1.length ≤ 1000 ∧ p1.length ≤ 1000))
  case atStart => exact ⟨p, t, HU, HB0, Other.refl w, HN, HS, rfl, rfl, ⟨hlt, hl⟩⟩
  case round =>
    obtain ⟨p1, t1, U1, B1, O1, N1, S1, E1, K1, L1⟩ := hrel
    clear HU HB0 HN HS h2
    cases gk with
    | zero =>
      obtain ⟨hB, vp, vt, hbk, hp, ht⟩ := U1.out
      obtain ⟨A3, c3, rfl⟩ := Kd.R_slice ht
      have h2 : wr.cell? ⟨g, 2, none⟩ = some (.slice A3 t1.length c3) := (blk_cell hbk 2).trans rfl
      have hm3 : ¬ m < (t1.length : Int) := by have := N1.out; omega
      clear hbk hp ht
      go_wp2
      go_ret
      refine ⟨rfl, ?_, B1.out, O1.out⟩
      rw [E1.out, ← K1.out, List.take_of_length_le (by have := N1.out; omega)]
      exact U1.out
    | succ k1 =>
      obtain ⟨ts, s, hts⟩ : ∃ ts s, t1 = ts ++ [s] := by
        rcases List.eq_nil_or_concat t1 with h | ⟨ts, s, h⟩
        · have := N1.out; rw [h] at this; simp at this; omega
        · exact ⟨ts, s, by simpa using h⟩
      subst hts
      obtain ⟨f0, f1⟩ := s
      obtain ⟨hB, vp, vt, hbk, hp, ht⟩ := U1.out
      have hlen : (ts ++ [(⟨f0, f1⟩ : S53)]).length = ts.length + 1 := by simp
      have hgl2 : (ts ++ [(⟨f0, f1⟩ : S53)]).getLastD z53 = ⟨f0, f1⟩ := by simp [List.getLastD_eq_getLast?]
      have hS := S1.out
      simp only [Safe, hgl2] at hS
      obtain ⟨_, hf0, hf1, hS2⟩ := hS
      have S2 := Lib.hid hS2
      have G2 := Lib.hid hgl2
      clear hS2 hgl2
      obtain ⟨bt, c3, rfl, hbb, hbl, _⟩ := Kd.R_form ht (by omega)
      obtain ⟨bp, c4, rfl, hbb4, hbl4, _⟩ := Kd.R_form hp (by omega)
      have hgl := blk_lt hbk
      have hcap3 := (Kd.R_reads' ht).2.1
      have hcap4 := (Kd.R_reads' hp).2.1
      rw [hlen] at hbk ht hcap3
      have h2 : wr.cell? ⟨g, 2, none⟩ = some (.slice (some ⟨bt, 0, none⟩) (ts.length + 1) c3) := (blk_cell hbk 2).trans rfl
      have h1 : wr.cell? ⟨g, 1, none⟩ = some (.slice (some ⟨bp, 0, none⟩) p1.length c4) := (blk_cell hbk 1).trans rfl
      have hfz1 := blk_frozen hbk 1
      have hfz2 := blk_frozen hbk 2
      have hm3 : m < (ts.length : Int) + 1 := by have := N1.out; rw [hlen] at this; omega
      have hL := L1.out
      rw [hlen] at hL
      obtain ⟨cc, hcl, hM, hcc, hcf⟩ := Kd.R_elem ht z53 (ts.length : Int) (by omega) (by omega)
      have hgs : (ts ++ [(⟨f0, f1⟩ : S53)]).getD (ts.length : Int).toNat z53 = ⟨f0, f1⟩ := by simp
      rw [hgs] at hM
      obtain rfl := k53_openM hM
      have hc0 : wr.cell? ⟨bt, ts.length * 2, none⟩ = some (.bool f0) := hcc 0 _ rfl
      have hc1 : wr.cell? ⟨bt, ts.length * 2 + 1, none⟩ = some (.int .i64 f1) := hcc 1 _ rfl
      obtain ⟨hpc, hpf⟩ := Kd.R_celln 0 hp f1 hf0 hf1
      have hneb : some g ≠ (Value.slice (some ⟨bp, 0, none⟩) p1.length c4).ownBlock := Kd.R_ne hp hbk (by decide)
      have hgp : g ≠ bp := fun e => hneb (by rw [e]; rfl)
      have hgp' : bp ≠ g := fun e => hgp e.symm
      have HBK := Lib.hid hbk
      clear hbk hp ht hlen hM hcc hgs hcl hcf hneb
      cases f0
      · go_wp2
        have hw64 : IntKind.i64.wrap (ts.length : Int) = ts.length := IntWalk.i64_in _ (by omega)
        have hw0 : (0 : Int) ≤ ts.length := by omega
        have hw1 : (ts.length : Int) < ts.length + 1 := by omega
        have hw2 : (ts.length : Int) ≤ c3 := by omega
        have hw3 : f1 ≤ (c4 : Int) := by omega
        go_region
        all_goals go_wp2
        all_goals go_region
        all_goals go_wp2
        all_goals go_region
        all_goals go_wp2
        go_roundg k1
        case measure => omega
        case rel =>
          have u1 := U1.out.cut_t h2 (k := ts.length) (by simp)
          rw [List.take_left' rfl] at u1
          have h1' : (wr.setCell ⟨g, 2, none⟩ (.slice (some ⟨bt, 0, none⟩) ts.length c3)).cell? ⟨g, 1, none⟩ = some (.slice (some ⟨bp, 0, none⟩) p1.length c4) := (blk_cell (blk_put HBK.out 2 (.slice (some ⟨bt, 0, none⟩) ts.length c3) rfl) 1).trans rfl
          have hN := N1.out
          have hK := K1.out
          have hE := E1.out
          have hS := S2.out
          have hdl : ∀ q : S53, (ts ++ [q]).dropLast = ts := fun q => by simp
          rw [List.length_append, List.length_singleton] at hN
          rw [List.take_append_of_le_length (by omega)] at hK
          rw [und_snoc] at hE
          rw [hdl] at hS
          have hln := pop1_length p1
          have u2 := u1.1.put_p h1' f1 f1
          have hsz : (((wr.setCell ⟨g, 2, none⟩ (.slice (some ⟨bt, 0, none⟩) ts.length c3)).setCell ⟨bp, f1.toNat, none⟩ (.int .i64 f1))).heap.size = wr.heap.size := by simp [World.setCell]
          refine ⟨pop1 p1 ⟨false, f1⟩, ts, u2.1.below ((((Below.refl _ _).alloc (Nat.le_refl _) _).drew).drew.drew), ?_, ?_, by unfold Hid; omega, hS, hE, hK, ⟨by omega, by have := hln ⟨false, f1⟩; omega⟩⟩
          · exact ((((B1.out.setCell (p := ⟨g, 2, none⟩) hB _).setCell (p := ⟨bp, f1.toNat, none⟩) hbb4 _).alloc (by rw [hsz]; exact Nat.le_trans hB (Nat.le_of_lt hgl)) _).drew).drew.drew
          · exact (((O1.out.trans u1.2).trans u2.2).trans (Other.of_below ((Below.refl _ _).alloc (Nat.le_refl _) _))).drew.drew.drew
      · go_wp2
        have hw64 : IntKind.i64.wrap (ts.length : Int) = ts.length := IntWalk.i64_in _ (by omega)
        have hw0 : (0 : Int) ≤ ts.length := by omega
        have hw1 : (ts.length : Int) < ts.length + 1 := by omega
        have hw2 : (ts.length : Int) ≤ c3 := by omega
        have hw3 : f1 ≤ (c4 : Int) := by omega
        go_region
        all_goals go_wp2
        all_goals go_region
        all_goals go_wp2
        all_goals go_region
        all_goals go_wp2
        go_roundg k1
        case measure => omega
        case rel =>
          have u1 := U1.out.cut_t h2 (k := ts.length) (by simp)
          rw [List.take_left' rfl] at u1
          have h1' : (wr.setCell ⟨g, 2, none⟩ (.slice (some ⟨bt, 0, none⟩) ts.length c3)).cell? ⟨g, 1, none⟩ = some (.slice (some ⟨bp, 0, none⟩) p1.length c4) := (blk_cell (blk_put HBK.out 2 (.slice (some ⟨bt, 0, none⟩) ts.length c3) rfl) 1).trans rfl
          have hN := N1.out
          have hK := K1.out
          have hE := E1.out
          have hS := S2.out
          have hdl : ∀ q : S53, (ts ++ [q]).dropLast = ts := fun q => by simp
          rw [List.length_append, List.length_singleton] at hN
          rw [List.take_append_of_le_length (by omega)] at hK
          rw [und_snoc] at hE
          rw [hdl] at hS
          have hln := pop1_length p1
          have u2 := u1.1.cut_p h1' (k := f1.toNat) (by omega)
          have hsz : (((wr.setCell ⟨g, 2, none⟩ (.slice (some ⟨bt, 0, none⟩) ts.length c3)).setCell ⟨g, 1, none⟩ (.slice (some ⟨bp, 0, none⟩) f1.toNat c4))).heap.size = wr.heap.size := by simp [World.setCell]
          refine ⟨pop1 p1 ⟨true, f1⟩, ts, u2.1.below ((((Below.refl _ _).alloc (Nat.le_refl _) _).drew).drew.drew), ?_, ?_, by unfold Hid; omega, hS, hE, hK, ⟨by omega, by have := hln ⟨true, f1⟩; omega⟩⟩
          · exact ((((B1.out.setCell (p := ⟨g, 2, none⟩) hB _).setCell (p := ⟨g, 1, none⟩) hB _).alloc (by rw [hsz]; exact Nat.le_trans hB (Nat.le_of_lt hgl)) _).drew).drew.drew
          · exact (((O1.out.trans u1.2).trans u2.2).trans (Other.of_below ((Below.refl _ _).alloc (Nat.le_refl _) _))).drew.drew.drew
end Go.Proofs.Ytdjgnoofdhjicaa.UF
