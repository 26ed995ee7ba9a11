-- Of the printed words what this claim names (shrink.py of this session).
import Derived.Test.YtippodpmggcniaaWWords
import Derived.Test.YtippodpmggcniaaWLast
namespace Go.Proofs.YtippodpmggcniaaW.PrintWords
open Go.RowKit
namespace Kd
end Kd
end Go.Proofs.YtippodpmggcniaaW.PrintWords
