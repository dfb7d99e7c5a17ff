/- Proved: for every text and number the law CarryNone of layer 25 answers true. No condition beyond the statement's own. -/
import Derived.Test.YtmkcoobmbjoloaaPx7
namespace Go.Proofs.Ytmkcoobmbjoloaa.Pure
open Go Go.RowKit Go.Proofs.Ytmkcoobmbjoloaa.P
theorem CarryNone (s : ByteArray) (e : Int) (_ : s.size ≤ 140737488351232) (_ : (Lit.int .i64 e).wf = true) : juratlaw25_CarryNone.f s e = some true := rfl

end Go.Proofs.Ytmkcoobmbjoloaa.Pure
