-- Of the printed words what this claim names (shrink.py of this session).
import Derived.Test.YtehknkgplldiiaaWTab
namespace Go.Proofs.YtehknkgplldiiaaW.PrintLast
end Go.Proofs.YtehknkgplldiiaaW.PrintLast
