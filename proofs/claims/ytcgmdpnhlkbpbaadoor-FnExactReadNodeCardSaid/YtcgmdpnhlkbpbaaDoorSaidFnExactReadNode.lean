-- Written by this session's program wip/xprint.py: the one pure statement of a law.
import Derived.Test.YtcgmdpnhlkbpbaaDoorXFnExactReadNodex22
import Derived.Test.YtcgmdpnhlkbpbaaDoorOpens
namespace Go.Proofs.YtcgmdpnhlkbpbaaDoor.fnExactReadNode
open Go.RowKit Go.Proofs.YtcgmdpnhlkbpbaaDoorW.PrintWords Go.Proofs.YtcgmdpnhlkbpbaaDoorW.PrintLast Go.Proofs.YtcgmdpnhlkbpbaaDoor.XFnExactReadNode Go.Proofs.YtcgmdpnhlkbpbaaDoor.Opens
def Pure : Prop := ∀ (a0 : ByteArray), (GStr) a0 → ∃ k, laws_FnExactReadNode.f k a0 = some true
end Go.Proofs.YtcgmdpnhlkbpbaaDoor.fnExactReadNode
