-- Of the printed words what this claim names (shrink.py of this session).
import Derived.Test.YtfhlddlhoockaaaWTab
namespace Go.Proofs.YtfhlddlhoockaaaW.PrintLast
end Go.Proofs.YtfhlddlhoockaaaW.PrintLast
