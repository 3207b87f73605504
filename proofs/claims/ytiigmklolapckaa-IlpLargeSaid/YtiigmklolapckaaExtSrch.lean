/- What the solver's Solve computes: its search, as a plain function. -/
import Derived.Test.YtiigmklolapckaaQAllx1
import Derived.Test.YtiigmklolapckaaQAllx2
import Derived.Test.YtiigmklolapckaaQAllx4
import Derived.Test.YtiigmklolapckaaExtProp
namespace Go.Proofs.Ytiigmklolapckaa.QAll
open Go.RowKit Go.Proofs.YtiigmklolapckaaW.PrintWords Go.Proofs.YtiigmklolapckaaW.PrintLast Go.Proofs.YtiigmklolapckaaW.PrintMore
attribute [local go_sem] max2_int min2_int max_two min_two max_three min_three max_four min_four
set_option linter.unusedVariables false
set_option linter.unusedSimpArgs false

/-- The first open variable. -/
def firstOpen : List Int → Nat
  | [] => 0
  | v :: vs => if v = -1 then 0 else firstOpen vs + 1
/-- Whether the search goes no further here. -/
def pruned (p0 : List Int) (p1 : List S43) (y : List Int) (least : Int) : Option Bool :=
  if 0 ≤ least then (ilp_bound.f 50000 p0 p1 y).bind fun b => (ilp_more.f 50000 p0 p1 y).bind fun m => some (decide (least ≤ wrap64 (b + m))) else some false
/-- The search below a partial assignment: what is best behind it. -/
def srch (p0 : List Int) (p1 : List S43) : Nat → List Int → List Bool × Int → Option (List Bool × Int)
  | 0, _, _ => none
  | n + 1, x, s => (ilp_propagate.f p0 p1 x).bind fun q =>
      if q.1 then (pruned p0 p1 q.2 s.2).bind fun c =>
        if c then some s
        else if firstOpen q.2 = q.2.length then (ilp_bound.f 50000 p0 p1 q.2).bind fun b => some (q.2.map (· == 1), b)
        else (srch p0 p1 n (q.2.set (firstOpen q.2) 0) s).bind fun s1 => srch p0 p1 n (q.2.set (firstOpen q.2) 1) s1
      else some s
def ilp_Solve.f (l0_0 : List Int) (l0_1 : List S43) : Option (List Bool × Int × Int) :=
  (ilp_Check.f 50000 l0_0 l0_1).bind fun c =>
    if c.2 = 0 then (if 64 < l0_0.length then none else (srch l0_0 l0_1 100 (List.replicate l0_0.length (-1)) ([], -1)).bind fun s => if s.2 < 0 then some ([], 0, 16) else some (s.1, s.2, 0))
    else some ([], 0, c.2)
end Go.Proofs.Ytiigmklolapckaa.QAll
