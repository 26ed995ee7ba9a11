-- Of the printed words what this claim names (shrink.py of this session).
import Derived.Test.YtehknkgplldiiaaWInv
import Derived.Test.YtehknkgplldiiaaWFootNe
namespace Go.Proofs.YtehknkgplldiiaaW.PrintWords
open Go.RowKit
end Go.Proofs.YtehknkgplldiiaaW.PrintWords
namespace Go.Proofs.YtehknkgplldiiaaW.PrintLast
end Go.Proofs.YtehknkgplldiiaaW.PrintLast
