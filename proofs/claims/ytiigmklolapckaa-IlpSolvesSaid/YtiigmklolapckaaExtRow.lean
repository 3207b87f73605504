/- What the solver's row tells of a row, and that the machine's call of it comes to that. Condition of the contract: the number of variables is at most 2^62. -/
import Derived.Test.YtiigmklolapckaaQAllx0
import Derived.Maps.OwnOps
import Derived.Maps.Views
import Derived.Lib.Hide
namespace Go.Proofs.Ytiigmklolapckaa.QAll
open Go.RowKit Go.Proofs.YtiigmklolapckaaW.PrintWords Go.Proofs.YtiigmklolapckaaW.PrintLast Go.Proofs.YtiigmklolapckaaW.PrintMore
attribute [local go_sem] max2_int min2_int max_two min_two max_three min_three max_four min_four
set_option linter.unusedVariables false
set_option linter.unusedSimpArgs false

/-- A row's coefficients from some place on: none if one is out of range, else whether a variable stands twice. -/
def rowScan (vars : Int) : List S45 → List Int → Bool → Option Bool
  | [], _, tw => some tw
  | c :: cs, seen, tw => if c.f0 < 0 ∨ vars ≤ c.f0 ∨ c.f1 < -1048576 ∨ 1048576 < c.f1 ∨ c.f1 = 0 then none else rowScan vars cs (c.f0 :: seen) (tw || seen.contains c.f0)
/-- The error of a row. -/
def rowErr (l : List S45) (least vars : Int) : Int :=
  if 64 < l.length then 7 else match rowScan vars l [] false with
  | none => 2
  | some tw => if least < -1099511627776 ∨ 1099511627776 < least then 2 else if tw then 9 else 0
def ilp_row.f (l0_0 : List S45) (a0_1 a1 : Int) : Option Int := if a1 ≤ 4611686018427387904 then some (rowErr l0_0 a0_1 a1) else none

/-- Block b is a map that holds the keys ks, each with true. -/
def Seen (w : World) (b : Nat) (ks : List Int) : Prop :=
  ∃ (D : DataW Unit) (n : Nat), Go.Maps.IsMap D ∧ n ≤ ks.length ∧ w.ownsMap Try.prog 3 (plainElem Try.prog 4) b n D ∧ ∀ x : Int, D.atKey (.int .i64 x) (.lit (.bool false)) = .lit (.bool (ks.contains x))
theorem Seen.made (w : World) : Seen (w.alloc (.map #[] 0)) w.heap.size [] := ⟨_, 0, Go.Maps.isMap_empty, Nat.le_refl _, World.ownsMap_made _ _ _ _, fun x => rfl⟩
theorem Seen.alloc {w : World} {b : Nat} {ks : List Int} (h : Seen w b ks) (o : Obj) : Seen (w.alloc o) b ks := by
  obtain ⟨D, n, h1, h2, h3, h4⟩ := h
  exact ⟨D, n, h1, h2, h3.alloc o, h4⟩
theorem Seen.look {w : World} {b : Nat} {ks : List Int} (h : Seen w b ks) (x : Int) (hx : (Lit.int .i64 x).wf = true) :
    (Instr.lookup 64 (.map (some b)) (.int .i64 x) false).run Try.prog w = .ok (.bool (ks.contains x)) w := by
  obtain ⟨D, n, h1, h2, h3, h4⟩ := h
  obtain ⟨v, ps, hr, hv⟩ := h3.lookup (Go.Maps.int_keyed Try.underlying3) Try.underlying64 (z := .bool false) (by kernel_rfl) (plainElem_bool Try.underlying4 false) (Go.Maps.keyOf_int_mk Try.underlying3 hx)
  rw [h4 x] at hv
  rw [hr]
  unfold plainElem at hv
  rw [Try.underlying4] at hv
  cases v <;> simp at hv
  simp [hv.1]
theorem Seen.put {w : World} {b : Nat} {ks : List Int} (h : Seen w b ks) (x : Int) (hx : (Lit.int .i64 x).wf = true) (hl : ks.length < maxLen) :
    ∃ w', (Instr.mapUpdate 64 (.map (some b)) (.int .i64 x) (.bool true)).run Try.prog w = .ok () w' ∧ Seen w' b (x :: ks) ∧ w.grownBy w' (some b) := by
  obtain ⟨D, n, h1, h2, h3, h4⟩ := h
  obtain ⟨w', hr, ho, hg⟩ := h3.update (Go.Maps.int_keyed Try.underlying3) Try.underlying64 (by omega) (Go.Maps.keyOf_int_mk Try.underlying3 hx) (plainElem_bool Try.underlying4 true)
  refine ⟨w', hr, ⟨_, n + 1, h1.put _ _, by simp; omega, ho, fun y => ?_⟩, hg⟩
  by_cases e : y = x
  · subst e
    rw [Go.Maps.atKey_put_same h1 (by simp [Go.WideAt.IsKeyLit])]
    simp
  · rw [Go.Maps.atKey_put_other (by intro e2; cases e2; exact e rfl), h4 y]
    have : (x :: ks).contains y = ks.contains y := by simp [List.contains_cons, e]
    rw [this]
theorem wf_small {x : Int} (h0 : 0 ≤ x) (h1 : x < 4611686018427387904) : (Lit.int .i64 x).wf = true := by
  simp [Lit.wf]; exact ⟨by show (-9223372036854775808 : Int) ≤ x; omega, by show x ≤ (9223372036854775807 : Int); omega⟩
/-- In wr, a round of row's loop: the row's own copy, and the map of the variables seen. -/
structure InRow (w wr : World) (A : Option Addr) (n c : Nat) (least : Int) (ks : List Int) : Prop where
  bel : Below w.heap.size w wr
  box : wr.heap[w.heap.size]? = some (.cells #[.slice A n c, .int .i64 least] 43 (0, 0))
  seen : Seen wr (w.heap.size + 1) ks
set_option maxHeartbeats 3200000 in
theorem ilp_row.calls (A0_0 : Option Addr) (c0_0 : Nat) (l0_0 : List (S45)) (a0_1 : Int) (a1 : Int) (r : Int) (w : World) (hr0_0 : Kd.C k45 w A0_0 l0_0.length l0_0) (hc0_0 : l0_0.length ≤ c0_0) (h : ilp_row.f l0_0 a0_1 a1 = some r) :
    Calls Try.prog 37 #[.agg #[.slice A0_0 l0_0.length c0_0, .int .i64 a0_1], .int .i64 a1] w fun e w' => e = .returned (.int .i64 r) ∧ Below w.heap.size w w' := by
  unfold ilp_row.f at h
  by_cases hv : a1 ≤ 4611686018427387904
  case neg => rw [if_neg hv] at h; cases h
  rw [if_pos hv] at h
  obtain rfl := Option.some.inj h
  clear h
  have hb0 := below_alloc (Below.refl w.heap.size w) (.cells #[.slice A0_0 l0_0.length c0_0, .int .i64 a0_1] 43)
  have hB0 := Lib.hid hb0
  have hmm : ∀ w : World, (Instr.makeMap 64 none).run Try.prog w = .ok (.map (some w.heap.size)) (w.alloc (.map #[] 0)) := fun _ => rfl
  have HC := Lib.hid hr0_0
  clear hb0 hr0_0
  by_cases hl : 64 < l0_0.length
  · have he : rowErr l0_0 a0_1 a1 = 7 := by unfold rowErr; rw [if_pos hl]
    rw [he]
    go_enter Try.func37, Try.ntmps37
    go_wp2
    go_ret
    exact ⟨rfl, hB0.out⟩
  · go_enter Try.func37, Try.ntmps37
    go_wp2
    go_loopw [6, 17] (fun v6 i wr => ∃ (k : Nat) (ks : List Int) (tw : Bool), k ≤ l0_0.length ∧ i = .int .i64 k ∧ v6 = .bool tw ∧ ks.length = k ∧ Hid (rowScan a1 l0_0 [] false = rowScan a1 (l0_0.drop k) ks tw) ∧ Hid (InRow w wr A0_0 l0_0.length c0_0 a0_1 ks)) (fun _ i _ => l0_0.length - (intOf i).toNat)
    case atStart => exact ⟨0, [], false, Nat.zero_le _, rfl, rfl, rfl, rfl, hB0.out.alloc (by simp) _, blk_alloc (blk_new _ _) _, by have h := Seen.made (w.alloc (.cells #[.slice A0_0 l0_0.length c0_0, .int .i64 a0_1] 43)); rwa [show (w.alloc (.cells #[.slice A0_0 l0_0.length c0_0, .int .i64 a0_1] 43)).heap.size = w.heap.size + 1 from Array.size_push _] at h⟩
    case round =>
      obtain ⟨k, ks, tw, hk, rfl, rfl, hks, HS, HW⟩ := hrel
      by_cases hlt : k < l0_0.length
      · obtain ⟨ad, rfl, x0, x1⟩ := at_T45 (Kd.C_below HC.out HW.out.bel) k (by omega) (by omega)
        rw [Int.toNat_natCast] at x0 x1
        have hdr : l0_0.drop k = rd_T45 l0_0 k :: l0_0.drop (k + 1) := by
          rw [List.drop_eq_getElem_cons hlt]; simp [rd_T45, List.getD_eq_getElem?_getD, List.getElem?_eq_getElem hlt]
        have HDR := Lib.hid hdr
        have c0 : wr.cell? ⟨w.heap.size, 0, none⟩ = some (.slice (some ad) l0_0.length c0_0) := (blk_cell HW.out.box 0).trans rfl
        clear hdr
        generalize rd_T45 l0_0 k = c at *
        have hb1 : Below w.heap.size w (wr.alloc (.cells #[.int .i64 c.f0, .int .i64 c.f1] 45)) := below_alloc HW.out.bel _
        have HB1 := Lib.hid hb1
        clear hb1
        by_cases eb : c.f0 < 0 ∨ a1 ≤ c.f0 ∨ c.f1 < -1048576 ∨ 1048576 < c.f1 ∨ c.f1 = 0
        · have hno : rowScan a1 l0_0 [] false = none := by rw [HS.out, HDR.out]; unfold rowScan; rw [if_pos eb]
          have he : rowErr l0_0 a0_1 a1 = 2 := by unfold rowErr; rw [if_neg hl, hno]
          have HE := Lib.hid he
          clear HS HDR hno he
          by_cases e1 : c.f0 < 0
          · go_wp2
            go_ret
            exact ⟨by rw [HE.out]; rfl, below_alloc HW.out.bel _⟩
          by_cases e2 : a1 ≤ c.f0
          · go_wp2
            go_ret
            exact ⟨by rw [HE.out]; rfl, below_alloc HW.out.bel _⟩
          by_cases e3 : c.f1 < -1048576
          · go_wp2
            go_ret
            exact ⟨by rw [HE.out]; rfl, below_alloc HW.out.bel _⟩
          by_cases e4 : 1048576 < c.f1
          · go_wp2
            go_ret
            exact ⟨by rw [HE.out]; rfl, below_alloc HW.out.bel _⟩
          have e5 : c.f1 = 0 := by omega
          go_wp2
          go_ret
          exact ⟨by rw [HE.out]; rfl, below_alloc HW.out.bel _⟩
        · have hst : rowScan a1 l0_0 [] false = rowScan a1 (l0_0.drop (k + 1)) (c.f0 :: ks) (tw || ks.contains c.f0) := by rw [HS.out, HDR.out]; conv => lhs; unfold rowScan; rw [if_neg eb]
          have HS1 := Lib.hid hst
          have e1 : ¬ c.f0 < 0 := by omega
          have e2 : ¬ a1 ≤ c.f0 := by omega
          have e3 : ¬ c.f1 < -1048576 := by omega
          have e4 : ¬ 1048576 < c.f1 := by omega
          have e5 : ¬ c.f1 = 0 := by omega
          have hwf := wf_small (x := c.f0) (by omega) (by omega)
          have hS1 := HW.out.seen.alloc (.cells #[.int .i64 c.f0, .int .i64 c.f1] 45)
          have hlk := hS1.look c.f0 hwf
          obtain ⟨w2, hput, hS2, hg2⟩ := hS1.put c.f0 hwf (by have : maxLen = 9223372036854775807 := rfl; omega)
          have hin : InRow w w2 (some ad) l0_0.length c0_0 a0_1 (c.f0 :: ks) := ⟨HB1.out.grown hg2 HB1.out.size (fun q hq => by have := Option.some.inj hq; omega), (hg2.block _ (by have := HB1.out.size; have := blk_lt HW.out.box; simp; omega) (by simp)).trans (blk_alloc HW.out.box _), hS2⟩
          have HIN := Lib.hid hin
          clear hst hwf hS1 hS2 hg2 hin eb
          cases tw
          all_goals
            go_wp2
            go_roundw
            case rel => exact ⟨k + 1, _, _, by omega, by go_num, by simp, by simp; omega, HS1, HIN⟩
            case measure => simp [intOf]; omega
      · have hkl : k = l0_0.length := by omega
        subst hkl
        have hsc : rowScan a1 l0_0 [] false = some tw := by rw [HS.out, List.drop_length]; rfl
        have he : rowErr l0_0 a0_1 a1 = if a0_1 < -1099511627776 ∨ 1099511627776 < a0_1 then 2 else if tw then 9 else 0 := by unfold rowErr; rw [if_neg hl, hsc]
        have c0 := (blk_cell HW.out.box 0).trans rfl
        have c1 : wr.cell? ⟨w.heap.size, 1, none⟩ = some (.int .i64 a0_1) := (blk_cell HW.out.box 1).trans rfl
        clear hsc HS
        by_cases eb : a0_1 < -1099511627776 ∨ 1099511627776 < a0_1
        · rw [if_pos eb] at he
          have HE := Lib.hid he
          clear he
          by_cases e1 : a0_1 < -1099511627776
          · go_wp2
            go_ret
            exact ⟨by rw [HE.out]; rfl, HW.out.bel⟩
          · have e2 : 1099511627776 < a0_1 := by omega
            go_wp2
            go_ret
            exact ⟨by rw [HE.out]; rfl, HW.out.bel⟩
        · rw [if_neg eb] at he
          have HE := Lib.hid he
          have e1 : ¬ a0_1 < -1099511627776 := by omega
          have e2 : ¬ 1099511627776 < a0_1 := by omega
          clear he eb
          cases tw
          all_goals
            go_wp2
            go_ret
            exact ⟨by rw [HE.out]; rfl, HW.out.bel⟩
end Go.Proofs.Ytiigmklolapckaa.QAll
