-- Of the printed words what this claim names (shrink.py of this session).
import Derived.Test.YtehknkgplldiiaaWWords
namespace Go.Proofs.YtehknkgplldiiaaW.PrintWords
open Go.RowKit
end Go.Proofs.YtehknkgplldiiaaW.PrintWords
