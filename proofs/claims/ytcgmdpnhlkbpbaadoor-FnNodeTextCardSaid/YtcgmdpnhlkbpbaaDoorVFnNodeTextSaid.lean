import Derived.Test.YtcgmdpnhlkbpbaaDoorVFnNodeTextXx11
import Derived.Test.YtcgmdpnhlkbpbaaDoorVFnNodeTextOpens
namespace Go.Proofs.YtcgmdpnhlkbpbaaDoor.fnNodeText
open Go.RowKit Go.Proofs.YtcgmdpnhlkbpbaaDoorW.PrintWords Go.Proofs.YtcgmdpnhlkbpbaaDoorW.PrintLast Go.Proofs.YtcgmdpnhlkbpbaaDoor.XFnNodeText Go.Proofs.YtcgmdpnhlkbpbaaDoor.Opens
def Pure : Prop := ∀ (l0 : List Int), (GList (GInt .u8)) l0 → ∃ k, laws_FnNodeText.f k l0 = some true
end Go.Proofs.YtcgmdpnhlkbpbaaDoor.fnNodeText
