-- Of the printed words what this claim names (shrink.py of this session).
import Derived.Test.YtfhlddlhoockaaaWInv
import Derived.Test.YtfhlddlhoockaaaWFootNe
namespace Go.Proofs.YtfhlddlhoockaaaW.PrintWords
open Go.RowKit
end Go.Proofs.YtfhlddlhoockaaaW.PrintWords
namespace Go.Proofs.YtfhlddlhoockaaaW.PrintLast
end Go.Proofs.YtfhlddlhoockaaaW.PrintLast
