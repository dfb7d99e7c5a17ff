/- A set of patterns in memory, told by its list and its three numbers; no condition. -/
import Derived.Test.YtcehdcijflbgjaaOb
namespace Go.Proofs.Ytcehdcijflbgjaa.P
open Go Go.RowKit Go.Proofs.YtcehdcijflbgjaaW.PrintWords

structure SetD where
  l : List ByteArray
  least : Int
  most : Int
  total : Int
  deriving Inhabited
abbrev D55 := SetD
def K55 : OBK SetD where
  R := fun w a d => ∃ b A c, a = ⟨b, 0, none⟩ ∧ w.cell? ⟨b, 0, none⟩ = some (.slice A d.l.length c) ∧ w.cell? ⟨b, 1, none⟩ = some (.int .i64 d.least) ∧ w.cell? ⟨b, 2, none⟩ = some (.int .i64 d.most) ∧ w.cell? ⟨b, 3, none⟩ = some (.int .i64 d.total) ∧ d.l.length ≤ c ∧ Kd.C Kd.string w A d.l.length d.l
  below := by
    rintro w w1 a d h ⟨b, A, c, rfl, h0, h1, h2, h3, hl, hc⟩
    exact ⟨b, A, c, rfl, cell_stays h h0, cell_stays h h1, cell_stays h h2, cell_stays h h3, hl, Kd.C_below hc h⟩
/-- A set's list, nothing of a nil set. -/
def setL (a0 : Option SetD) : List ByteArray := match a0 with | none => [] | some d => d.l
/-- How long its shortest one is. -/
def setM (a0 : Option SetD) : Int := match a0 with | none => 0 | some d => d.least
end Go.Proofs.Ytcehdcijflbgjaa.P
