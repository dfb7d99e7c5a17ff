/- Proved: for all parts and every place the law ChunkParts of layer 6 answers true. No condition beyond the statement's own. -/
import Derived.Test.YtibckaogfdffpaaPx4
namespace Go.Proofs.Ytibckaogfdffpaa.Pure
open Go Go.RowKit Go.Proofs.Ytibckaogfdffpaa.P Go.Proofs.Ytibckaogfdffpaa.Base
theorem ChunkParts (l : List ByteArray) (a : Int) (hl : l.length * 16 ≤ 140737488351232) (_ : ∀ x ∈ l, x.size ≤ maxLen) (ha : (Lit.int .i64 a).wf = true) : juratlaw06_ChunkParts.f l a = some true := if_pos ⟨⟨(wf64 ha).1, (wf64 ha).2⟩, hl⟩

end Go.Proofs.Ytibckaogfdffpaa.Pure
