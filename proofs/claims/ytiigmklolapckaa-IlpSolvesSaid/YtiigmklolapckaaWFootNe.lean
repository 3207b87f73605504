/- Words of the print (print.sh OWN=1), as far as this seat uses them: cut by prune.py, a program of this session. -/
import Derived.Test.YtiigmklolapckaaWN
namespace Go.Proofs.YtiigmklolapckaaW.PrintWords
open Go.RowKit
namespace Kd
end Kd
end Go.Proofs.YtiigmklolapckaaW.PrintWords
