-- Of the printed words what this claim names (shrink.py of this session).
import Derived.Test.YtfhlddlhoockaaaWWords
import Derived.Test.YtfhlddlhoockaaaWLast
namespace Go.Proofs.YtfhlddlhoockaaaW.PrintWords
open Go.RowKit
namespace Kd
end Kd
end Go.Proofs.YtfhlddlhoockaaaW.PrintWords
