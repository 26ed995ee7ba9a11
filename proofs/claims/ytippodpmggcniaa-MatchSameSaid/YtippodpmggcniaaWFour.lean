-- Of the printed words what this claim names (shrink.py of this session).
import Derived.Test.YtippodpmggcniaaWTab
namespace Go.Proofs.YtippodpmggcniaaW.PrintLast
end Go.Proofs.YtippodpmggcniaaW.PrintLast
