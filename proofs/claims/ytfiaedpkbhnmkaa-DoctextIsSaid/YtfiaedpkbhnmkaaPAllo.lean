-- made by rowx.py of this session: what is told of arguments that read as data
import Derived.Test.YtfiaedpkbhnmkaaPAllx0
import Derived.Test.YtfiaedpkbhnmkaaXOpen
namespace Go.Proofs.Ytfiaedpkbhnmkaa.PAll
open Go.RowKit Go.Proofs.YtfiaedpkbhnmkaaW.PrintWords Go.Proofs.YtfiaedpkbhnmkaaX
set_option linter.unusedVariables false
end Go.Proofs.Ytfiaedpkbhnmkaa.PAll
