-- made by rowx.py of this session: what is told of arguments that read as data
import Derived.Test.YtlipfldicjihhaaDoorPTabx0
import Derived.Test.YtlipfldicjihhaaDoorXOpen
namespace Go.Proofs.YtlipfldicjihhaaDoor.PTab
open Go.RowKit Go.Proofs.YtlipfldicjihhaaDoorW.PrintWords Go.Proofs.YtlipfldicjihhaaDoorX
set_option linter.unusedVariables false
end Go.Proofs.YtlipfldicjihhaaDoor.PTab
