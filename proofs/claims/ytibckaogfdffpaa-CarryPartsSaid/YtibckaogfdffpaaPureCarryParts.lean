/- Proved: for every number, text and end the law CarryParts of layer 25 answers true. No condition beyond the statement's own. -/
import Derived.Test.YtibckaogfdffpaaPx3
namespace Go.Proofs.Ytibckaogfdffpaa.Pure
open Go Go.RowKit Go.Proofs.Ytibckaogfdffpaa.P Go.Proofs.Ytibckaogfdffpaa.Base
theorem CarryParts (keep : Int) (s : ByteArray) (e : Int) (hk : (Lit.int .i64 keep).wf = true) (_ : s.size ≤ 140737488351232) (he : (Lit.int .i64 e).wf = true) : juratlaw25_CarryParts.f keep s e = some true := if_pos ⟨(wf64 he).1, (wf64 he).2, (wf64 hk).1, (wf64 hk).2⟩

end Go.Proofs.Ytibckaogfdffpaa.Pure
