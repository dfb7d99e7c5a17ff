/- The classes of a set in memory, told by the 256 classes and the bytes; no condition. -/
import Derived.Test.YtdfcmkmdioddnaaOb
import Derived.Test.YtdfcmkmdioddnaaArr
namespace Go.Proofs.Ytdfcmkmdioddnaa.P
open Go Go.RowKit Go.Proofs.YtdfcmkmdioddnaaW.PrintWords

structure ClassD where
  of : List Int
  bytes : List Int
  deriving Inhabited
abbrev D84 := ClassD
def K84 : OBK ClassD where
  R := fun w a d => ∃ b A c, a = ⟨b, 0, none⟩ ∧ d.of.length = 256 ∧ w.heap[b]? = some (.cells (arCells .u16 d.of (.slice A d.bytes.length c)) 84 (0, 0)) ∧ d.bytes.length ≤ c ∧ Kd.C (Kd.int .u8) w A d.bytes.length d.bytes
  below := by
    rintro w w1 a d h ⟨b, A, c, rfl, hl, hb, hc, hC⟩
    exact ⟨b, A, c, rfl, hl, (h.block _ (Array.getElem?_eq_some_iff.1 hb).1).trans hb, hc, Kd.C_below hC h⟩
end Go.Proofs.Ytdfcmkmdioddnaa.P
