-- Of the printed words what this claim names (shrink.py of this session).
import Derived.Test.YtehknkgplldiiaaWN
namespace Go.Proofs.YtehknkgplldiiaaW.PrintWords
open Go.RowKit
namespace Kd
end Kd
end Go.Proofs.YtehknkgplldiiaaW.PrintWords
