/- Words of the print (print.sh OWN=1), as far as this seat uses them: cut by prune.py, a program of this session. -/
import Derived.Test.YtiigmklolapckaaWTab
namespace Go.Proofs.YtiigmklolapckaaW.PrintLast
end Go.Proofs.YtiigmklolapckaaW.PrintLast
