/- The law's own trial. -/
import Derived.Test.YtjoplgehefncbaaDoorADestR
set_option linter.all false
set_option maxRecDepth 100000
namespace Go.Abs.Dest
open Go.RowKit Go.Proofs Go.Abs.Tab
def b0 : Bf := ⟨2, 240, 272, [65]⟩
def SAwake : Sp := ⟨Unit, fun _ => True, fun _ => [], fun _ => .st (.lit true)⟩
end Go.Abs.Dest
