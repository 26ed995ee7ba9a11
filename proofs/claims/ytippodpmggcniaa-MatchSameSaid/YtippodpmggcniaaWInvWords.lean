-- Of the printed words what this claim names (shrink.py of this session).
import Derived.Test.YtippodpmggcniaaWInv
import Derived.Test.YtippodpmggcniaaWFootNe
namespace Go.Proofs.YtippodpmggcniaaW.PrintWords
open Go.RowKit
end Go.Proofs.YtippodpmggcniaaW.PrintWords
namespace Go.Proofs.YtippodpmggcniaaW.PrintLast
end Go.Proofs.YtippodpmggcniaaW.PrintLast
